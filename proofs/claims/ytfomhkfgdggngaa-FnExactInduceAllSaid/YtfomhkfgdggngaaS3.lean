-- PRINTED by print.py (a twelfth state) out of the translation. Not trusted: Lean checks it.
import Derived.Test.YtfomhkfgdggngaaS0
namespace Go.Proofs.Ytfomhkfgdggngaa.S
open Go.RowKit Go.Proofs.YtfomhkfgdggngaaW.PrintWords Go.Proofs.YtfomhkfgdggngaaW.PrintLast Go.Proofs.YtfomhkfgdggngaaW.PrintMore
attribute [local go_sem] max2_int min2_int max_two min_two max_three min_three max_four min_four   -- for this text's walks alone
set_option linter.unusedVariables false
set_option linter.unusedSimpArgs false

/-! ### laws_toIntS: function 30 -/
def laws_toIntS.l0 : Nat → List Int → List Int → Int → Option (List Int)
 | 0, _, _, _ => none
 | k + 1, x0, x3, x4 => if x4 < (x0.length : Int) then (if 0 ≤ x4 then (if x4 < (x3.length : Int) then (laws_toIntS.l0 k x0 (x3.set (x4 : Int).toNat (rd x0 x4)) (wrap64 (x4 + 1))) else (none)) else (none)) else (some x3)
def laws_toIntS.f (k : Nat) (l0 : List Int) : Option (List Int) := if 0 ≤ (l0.length : Int) then (if ((l0.length : Int) : Int).toNat ≤ 35184372088832 then (laws_toIntS.l0 k l0 (List.replicate ((l0.length : Int) : Int).toNat 0) 0) else (none)) else (none)
set_option maxHeartbeats 8000000 in
set_option maxRecDepth 100000 in
theorem laws_toIntS.calls (k : Nat) (A0 : Option Addr) (c0 : Nat) (l0 : List Int) (r : List Int) (w : World) (hr0 : Kd.C (Kd.int .i64) w A0 l0.length l0) (hc0 : l0.length ≤ c0) (h : laws_toIntS.f k l0 = some r) :
  Calls Try.prog 30 #[.slice A0 l0.length c0] w fun e w' => ∃ v0_ : Value, e = .returned (v0_) ∧ Kd.R (Kd.int .i64) 3 w' w.heap.size (fun _ => True) v0_ r ∧ Below w.heap.size w w' := by
 have HR0 := Aside0.mk hr0
 have HC0 := Aside0.mk hc0
 clear hr0 hc0
 have HB := Aside0.mk (Below.refl w.heap.size w)
 have H : (if 0 ≤ (l0.length : Int) then (if ((l0.length : Int) : Int).toNat ≤ 35184372088832 then (laws_toIntS.l0 k l0 (List.replicate ((l0.length : Int) : Int).toNat 0) 0) else (none)) else (none)) = some r := h
 clear h
 by_cases c2 : 0 ≤ (l0.length : Int)
 {
 rw [if_pos c2] at H
 have c2b0 := eq_true c2
 have c2b1 : decide (0 ≤ (l0.length : Int)) = true := decide_eq_true c2
 clear c2
 by_cases c3 : ((l0.length : Int) : Int).toNat ≤ 35184372088832
 {
 rw [if_pos c3] at H
 have c3b0 := eq_true c3
 have c3b1 : decide (((l0.length : Int) : Int).toNat ≤ 35184372088832) = true := decide_eq_true c3
 clear c3
 obtain ⟨y176, hy176⟩ : ∃ y_ : List Int, y_ = (List.replicate ((l0.length : Int) : Int).toNat 0) := ⟨_, rfl⟩
 replace H : (laws_toIntS.l0 k l0 y176 0) = some r := by first | (rw [hy176]; with_reducible exact H) | (have H2_ := (Option.bind_some _ _).symm.trans H; rw [hy176]; with_reducible exact H2_) | (have H2_ := (Option.bind_some _ _).symm.trans H; with_reducible exact H2_) | with_reducible exact H | (rw [hy176]; exact H) | exact H
 have Ny176 := Aside0.mk hy176
 clear hy176
 have H' := Aside0.mk H
 clear H
 go_enter Try.func30, Try.ntmps30
 go_wp2_with (first | ((with_reducible refine gate_dst (N := 7) rfl ?_); refine Kd.R_make (Kd.int .i64) _ 3 rfl (N := 7) rfl 22 _ _ rfl (l0.length : Int) rfl rfl Try.underlying22 (.int .i64 0) 8 info3 rfl (by decide) (by omega) 0 (ok := fun _ => True) (okp := fun _ => True) rfl (fun _ hk => hk) trivial (dX) (Nat.le_trans (Nat.mul_le_mul_right _ (dX : (l0.length : Int).toNat ≤ 35184372088832)) (by omega)) (Below.refl _ _) (Nat.le_refl _) ?_; intro v177 w4 ho5 hb hg_ hnew_; clear hg_ hnew_; (first | rw [← Ny176.out] at ho5 | (simp only [Int.reduceToNat] at ho5; rw [← Ny176.out] at ho5)); have n0_ := Aside0.mk (Kd.R_lower ho5 (below_size (bX HB.out))); have n1_ := Aside0.mk (below_step (bX HB.out) hb); clear HB; have HO178 := n0_; have HB := n1_; clear n0_ n1_ hb ho5))
 go_loopg [4] k (fun kq v4 w' => ∃ (x3_1 : List Int) (x4_1 : Int), v4 = .int .i64 x4_1 ∧ Aside0 (laws_toIntS.l0 kq l0 x3_1 x4_1 = some r) ∧ Aside0 (kq ≤ k) ∧ Aside0 (Kd.R (Kd.int .i64) 3 w' w.heap.size (fun _ => True) v177 x3_1) ∧ Aside0 (Below w.heap.size w w'))
 case atStart => exact ⟨(y176), (0), vX, H', ⟨Nat.le_refl _⟩, ⟨rX HO178.out⟩, ⟨bX HB.out⟩⟩
 case round =>
 clear H'
 try clear c2
 try clear c2b0
 try clear c2b1
 try clear p2
 try clear c3
 try clear c3b0
 try clear c3b1
 obtain ⟨x3_1, x4_1, rfl, HA, HK1, HO_3, HB⟩ := hrel
 cases gk with
 | zero => exact absurd HA.out (by simp [laws_toIntS.l0])
 | succ k1 =>
 have H := HA.out
 clear HA
 simp only [laws_toIntS.l0] at H
 by_cases c6 : x4_1 < (l0.length : Int)
 {
 rw [if_pos c6] at H
 have c6b0 : decide (x4_1 < (l0.length : Int)) = true := decide_eq_true c6
 clear c6
 by_cases c7 : 0 ≤ x4_1
 {
 rw [if_pos c7] at H
 have c7b0 : decide (0 ≤ x4_1) = true := decide_eq_true c7
 clear c7
 by_cases c8 : x4_1 < (x3_1.length : Int)
 {
 rw [if_pos c8] at H
 have c8b0 : decide (x4_1 < (x3_1.length : Int)) = true := decide_eq_true c8
 clear c8
 obtain ⟨y180, hy180⟩ : ∃ y_ : List Int, y_ = (x3_1.set (x4_1 : Int).toNat (rd l0 x4_1)) := ⟨_, rfl⟩
 replace H : (laws_toIntS.l0 k1 l0 y180 (wrap64 (x4_1 + 1))) = some r := by first | (rw [hy180]; with_reducible exact H) | (have H2_ := (Option.bind_some _ _).symm.trans H; rw [hy180]; with_reducible exact H2_) | (have H2_ := (Option.bind_some _ _).symm.trans H; with_reducible exact H2_) | with_reducible exact H | (rw [hy180]; exact H) | exact H
 have Ny180 := Aside0.mk hy180
 clear hy180
 have H' := Aside0.mk H
 clear H
 have p179 : 0 ≤ (x4_1 : Int) := dX
 have q179 : x4_1 < (l0.length : Int) := dX
 obtain ⟨ad179, e179, hx179_0⟩ := Kd.at_int HR0.out x4_1 p179 q179
 cases e179
 replace hx179_0 := (HB.out.cell (World.block_lt_of_cell? w _ hx179_0)).trans hx179_0
 replace p179 := eq_true p179
 replace q179 := eq_true q179
 have p9 : 0 ≤ (x4_1 : Int) := dX
 have q9 : (x4_1 : Int) < ((x3_1.length : Int) : Int) := dX
 obtain ⟨go9, co9, eo9, gb9, gl9, cl9, HG9⟩ := Kd.R_form HO_3.out (by omega)
 (first | cases eo9 | (injection eo9 with ea_ en_ ec_; (first | subst ea_ | (injection ea_ with ea_; subst ea_)); subst ec_; clear en_))
 have GB9 := Aside0.mk gb9
 have GG9 := Aside0.mk HG9
 clear gb9 gl9 HG9
 obtain ⟨hx9_0, hf9_0⟩ := Kd.R_celln 0 HO_3.out (x4_1 : Int) p9 q9
 replace p9 := eq_true p9
 replace q9 := eq_true q9
 have HP10 := Kd.R_putg HO_3.out (x4_1 : Int) (rd l0 x4_1)
 go_wp2_with (first | ((with_reducible refine gate_store (t := 3) (p := 20) rfl ?_); refine store_event (t := 3) (p := 20) (v := ?vo_w11) (w1 := (wr.setCell ⟨go9, (x4_1 : Int).toNat, none⟩ (.int .i64 (rd l0 x4_1)))) ?hg ?ho ?hn ?hr ?_; (case ho => rfl); (case hg => rfl); (case hn => rfl); (case hr => first | (go_simp; done) | (go_simp; rfl)); intro w11 hw; have hg : wr.grownBy w11 (some go9) := (by rw [hw]; exact HP10.2); have hp_ : Kd.R (Kd.int .i64) 3 w11 w.heap.size (fun _ => True) (.slice (some ⟨go9, 0, none⟩) x3_1.length co9) y180 := (by rw [hw, Ny180.out]; exact HP10.1); clear HP10; have n0_ := Aside0.mk (hp_); have n1_ := Aside0.mk ((by rw [hw]; exact below_set (HB.out) GB9.out : Below w.heap.size w w11)); clear HO_3 HB; have HO_3 := n0_; have HB := n1_; clear n0_ n1_ hg hw hp_))
 go_roundg k1
 case measure => have := HK1.out; omega
 case rel => exact ⟨(y180), (wrap64 (x4_1 + 1)), vX, H', ⟨by have := HK1.out; omega⟩, ⟨rX HO_3.out⟩, ⟨bX HB.out⟩⟩
 }
 {
 rw [if_neg c8] at H
 exact absurd H (by simp)
 }
 }
 {
 rw [if_neg c7] at H
 exact absurd H (by simp)
 }
 }
 {
 rw [if_neg c6] at H
 have c6b0 : decide (x4_1 < (l0.length : Int)) = false := decide_eq_false c6
 clear c6
 obtain rfl := Option.some.inj H
 go_wp2
 go_ret
 exact ⟨_, eX, by (with_reducible repeat (first|apply rA|apply rN|apply rD)); exact HO_3.out, bX HB.out⟩
 }
 }
 {
 rw [if_neg c3] at H
 exact absurd H (by simp)
 }
 }
 {
 rw [if_neg c2] at H
 exact absurd H (by simp)
 }

/-! ### laws_toExchange: function 8 -/
def laws_toExchange.f (k : Nat) (l0_0 : List Int) (l0_1 : List Int) (l0_2 : List Int) : Option (List Int × List Int × List Int) := (laws_toIntS.f k l0_0).bind fun t184 => ((laws_toIntS.f k l0_1).bind fun t187 => ((laws_toIntS.f k l0_2).bind fun t190 => (some (t184, t187, t190))))
set_option maxHeartbeats 8000000 in
set_option maxRecDepth 100000 in
theorem laws_toExchange.calls (k : Nat) (A0_0 : Option Addr) (c0_0 : Nat) (l0_0 : List Int) (A0_1 : Option Addr) (c0_1 : Nat) (l0_1 : List Int) (A0_2 : Option Addr) (c0_2 : Nat) (l0_2 : List Int) (r1 : List Int) (r2 : List Int) (r3 : List Int) (w : World) (hr0_0 : Kd.C (Kd.int .i64) w A0_0 l0_0.length l0_0) (hc0_0 : l0_0.length ≤ c0_0) (hr0_1 : Kd.C (Kd.int .i64) w A0_1 l0_1.length l0_1) (hc0_1 : l0_1.length ≤ c0_1) (hr0_2 : Kd.C (Kd.int .i64) w A0_2 l0_2.length l0_2) (hc0_2 : l0_2.length ≤ c0_2) (h : laws_toExchange.f k l0_0 l0_1 l0_2 = some (r1, r2, r3)) :
  Calls Try.prog 8 #[.agg #[.slice A0_0 l0_0.length c0_0, .slice A0_1 l0_1.length c0_1, .slice A0_2 l0_2.length c0_2]] w fun e w' => ∃ v0_ v1_ v2_ : Value, e = .returned (.agg #[v0_, v1_, v2_]) ∧ Kd.R (Kd.int .i64) 3 w' w.heap.size (fun k_ => some k_ ≠ (v1_ : Value).ownBlock ∧ some k_ ≠ (v2_ : Value).ownBlock) v0_ r1 ∧ Kd.R (Kd.int .i64) 3 w' w.heap.size (fun k_ => some k_ ≠ (v0_ : Value).ownBlock ∧ some k_ ≠ (v2_ : Value).ownBlock) v1_ r2 ∧ Kd.R (Kd.int .i64) 3 w' w.heap.size (fun k_ => some k_ ≠ (v0_ : Value).ownBlock ∧ some k_ ≠ (v1_ : Value).ownBlock) v2_ r3 ∧ Below w.heap.size w w' := by
 have hu24 := Try.underlying24
 have hu26 := Try.underlying26
 have HR0_0 := Aside0.mk hr0_0
 have HC0_0 := Aside0.mk hc0_0
 clear hr0_0 hc0_0
 have HR0_1 := Aside0.mk hr0_1
 have HC0_1 := Aside0.mk hc0_1
 clear hr0_1 hc0_1
 have HR0_2 := Aside0.mk hr0_2
 have HC0_2 := Aside0.mk hc0_2
 clear hr0_2 hc0_2
 have HB := Aside0.mk (Below.refl w.heap.size w)
 have H : ((laws_toIntS.f k l0_0).bind fun t184 => ((laws_toIntS.f k l0_1).bind fun t187 => ((laws_toIntS.f k l0_2).bind fun t190 => (some (t184, t187, t190))))) = some (r1, r2, r3) := h
 clear h
 replace H := Option.bind_eq_some_iff.mp H
 obtain ⟨t184, A20, H⟩ := H
 replace H : ((laws_toIntS.f k l0_1).bind fun t187 => ((laws_toIntS.f k l0_2).bind fun t190 => (some (t184, t187, t190)))) = some (r1, r2, r3) := H
 have A2 := Aside0.mk A20
 clear A20
 replace H := Option.bind_eq_some_iff.mp H
 obtain ⟨t187, A30, H⟩ := H
 replace H : ((laws_toIntS.f k l0_2).bind fun t190 => (some (t184, t187, t190))) = some (r1, r2, r3) := H
 have A3 := Aside0.mk A30
 clear A30
 replace H := Option.bind_eq_some_iff.mp H
 obtain ⟨t190, A40, H⟩ := H
 replace H : (some (t184, t187, t190)) = some (r1, r2, r3) := H
 have A4 := Aside0.mk A40
 clear A40
 simp only [Option.some.injEq, Prod.mk.injEq] at H
 obtain ⟨rfl, rfl, rfl⟩ := H
 go_enter Try.func8, Try.ntmps8
 go_wp2_with (first | ((with_reducible refine gate_dst (N := 1) rfl ?_); refine box_event ?hg (N := 1) ?hd (cs := #[.slice A0_0 l0_0.length c0_0, .slice A0_1 l0_1.length c0_1, .slice A0_2 l0_2.length c0_2]) (t := 24) ?hr ?_; (case hd => rfl); (case hg => rfl); (case hr => first | (go_simp; done) | (go_simp; rfl)); intro gb181 hg w5 hbox hb; have n0_ := Aside0.mk (below_step (bX HB.out) hb); have n1_ := Aside0.mk (hbox); have n2_ := Aside0.mk ((szX (below_size (bX HB.out)) hg : w.heap.size ≤ gb181)); have n3_ := Aside0.mk ((szX (below_size (bX HB.out)) hg : w.heap.size ≤ gb181)); clear HB; have HB := n0_; have BK181 := n1_; have GW181 := n2_; have GE181 := n3_; clear n0_ n1_ n2_ n3_ hb hbox hg) | ((with_reducible refine gate_dst (N := 2) rfl ?_); refine box_event ?hg (N := 2) ?hd (cs := #[.slice none 0 0, .slice none 0 0, .slice none 0 0]) (t := 26) ?hr ?_; (case hd => rfl); (case hg => rfl); (case hr => first | (go_simp; done) | (go_simp; rfl)); intro gb182 hg w6 hbox hb; have n0_ := Aside0.mk (bbX BK181.out hb); have n1_ := Aside0.mk (below_step (bX1 HB.out GE181.out) hb); have n2_ := Aside0.mk (hbox); have n3_ := Aside0.mk ((szX (below_size (bX1 HB.out GE181.out)) hg : w.heap.size ≤ gb182)); have n4_ := Aside0.mk ((szX (below_size (bX1 HB.out GE181.out)) hg : w.heap.size ≤ gb182)); have n5_ := Aside0.mk (neX BK181.out hg); have n6_ := Aside0.mk (nfX BK181.out hg); clear BK181 HB; have BK181 := n0_; have HB := n1_; have BK182 := n2_; have GW182 := n3_; have GE182 := n4_; have NB181_182 := n5_; have NB182_181 := n6_; clear n0_ n1_ n2_ n3_ n4_ n5_ n6_ hb hbox hg) | ((with_reducible refine gate_dst (N := 3) rfl ?_); refine box_event ?hg (N := 3) ?hd (cs := #[.slice none 0 0, .slice none 0 0, .slice none 0 0]) (t := 26) ?hr ?_; (case hd => rfl); (case hg => rfl); (case hr => first | (go_simp; done) | (go_simp; rfl)); intro gb183 hg w7 hbox hb; have n0_ := Aside0.mk (bbX BK181.out hb); have n1_ := Aside0.mk (bbX BK182.out hb); have n2_ := Aside0.mk (below_step (bX2 HB.out GE181.out GE182.out) hb); have n3_ := Aside0.mk (hbox); have n4_ := Aside0.mk ((szX (below_size (bX2 HB.out GE181.out GE182.out)) hg : w.heap.size ≤ gb183)); have n5_ := Aside0.mk ((szX (below_size (bX2 HB.out GE181.out GE182.out)) hg : w.heap.size ≤ gb183)); have n6_ := Aside0.mk (neX BK181.out hg); have n7_ := Aside0.mk (nfX BK181.out hg); have n8_ := Aside0.mk (neX BK182.out hg); have n9_ := Aside0.mk (nfX BK182.out hg); clear BK181 BK182 HB; have BK181 := n0_; have BK182 := n1_; have HB := n2_; have BK183 := n3_; have GW183 := n4_; have GE183 := n5_; have NB181_183 := n6_; have NB183_181 := n7_; have NB182_183 := n8_; have NB183_182 := n9_; clear n0_ n1_ n2_ n3_ n4_ n5_ n6_ n7_ n8_ n9_ hb hbox hg; have hnb8 := NB181_182.out; have hnc8 := NB182_181.out; have hnb9 := NB181_183.out; have hnc9 := NB183_181.out; have hcz10_0 := cz30 BK181.out; have hcz10_1 := cz31 BK181.out; have hcz10_2 := cz32 BK181.out; have hfz10_0 := blk_frozen BK181.out 0; have hfz10_1 := blk_frozen BK181.out 1; have hfz10_2 := blk_frozen BK181.out 2) | ((with_reducible refine gate_callee (f := 30) rfl ?_); refine goesL_ (some 6) rfl rfl Try.func30 (by kernel_rfl) rfl #[.slice A0_0 l0_0.length c0_0] rfl aX ?_; (with_reducible refine (laws_toIntS.calls k _ _ l0_0 t184 _ ?side1 ?side2 A2.out).mono ?_); (case side1 => exact cX (Kd.C_below HR0_0.out HB.out)); (case side2 => exact HC0_0.out); rintro e w11 ⟨v185, rfl, ho0, hb⟩; refine ⟨_, rfl, ?_⟩; have n0_ := Aside0.mk (Kd.R_lower ho0 (below_size (bX3 HB.out GE181.out GE182.out GE183.out))); have n1_ := Aside0.mk (bbX BK181.out hb); have n2_ := Aside0.mk (bbX BK182.out hb); have n3_ := Aside0.mk (bbX BK183.out hb); have n4_ := Aside0.mk (below_step (bX3 HB.out GE181.out GE182.out GE183.out) hb); clear BK181 BK182 BK183 HB; have HO186 := n0_; have BK181 := n1_; have BK182 := n2_; have BK183 := n3_; have HB := n4_; clear n0_ n1_ n2_ n3_ n4_; (try clear hb); (try clear hb2); (try clear hk); (try clear hi); (try clear ho0); obtain ⟨Ao12, co12, eo12⟩ := Kd.R_slice HO186.out; subst eo12; have hnb13 := NB183_182.out; have hnc13 := NB182_183.out; have hcz14_0 := cz30 BK183.out; have hcz14_1 := cz31 BK183.out; have hcz14_2 := cz32 BK183.out; have hfz14_0 := blk_frozen BK183.out 0; have hfz14_1 := blk_frozen BK183.out 1; have hfz14_2 := blk_frozen BK183.out 2; have hcz15_0 := cz30 BK181.out; have hcz15_1 := cz31 BK181.out; have hcz15_2 := cz32 BK181.out; have hfz15_0 := blk_frozen BK181.out 0; have hfz15_1 := blk_frozen BK181.out 1; have hfz15_2 := blk_frozen BK181.out 2) | ((with_reducible refine gate_callee (f := 30) rfl ?_); refine goesL_ (some 10) rfl rfl Try.func30 (by kernel_rfl) rfl #[.slice A0_1 l0_1.length c0_1] rfl aX ?_; (with_reducible refine (laws_toIntS.calls k _ _ l0_1 t187 _ ?side1 ?side2 A3.out).mono ?_); (case side1 => exact Kd.C_below HR0_1.out (bX3 HB.out GE181.out GE182.out GE183.out)); (case side2 => exact HC0_1.out); rintro e w16 ⟨v188, rfl, ho0, hb⟩; refine ⟨_, rfl, ?_⟩; have n0_ := Aside0.mk (Kd.R_elder' (rX (fr1 HO186.out BK183.out (.slice Ao12 t184.length co12))) (Kd.R_base ho0) hb); have n1_ := Aside0.mk (Kd.R_lower (Kd.R_new' ho0 (Kd.R_lt (rX (fr1 HO186.out BK183.out (.slice Ao12 t184.length co12))))) (below_size (bX3 HB.out GE181.out GE182.out GE183.out))); have n2_ := Aside0.mk (blk_below (g := gb181) (o := .cells #[.slice A0_0 l0_0.length c0_0, .slice A0_1 l0_1.length c0_1, .slice A0_2 l0_2.length c0_2] 24 (0, 0)) (by (with_reducible repeat (first|refine kN ?_ _|refine kD ?_|refine kA ?_ _)); refine blk_far ?_ NB181_183.out _; (with_reducible repeat (first|refine kN ?_ _|refine kD ?_|refine kA ?_ _)); exact BK181.out) hb); have n3_ := Aside0.mk (blk_below (g := gb182) (o := .cells #[.slice none 0 0, .slice none 0 0, .slice none 0 0] 26 (0, 0)) (by (with_reducible repeat (first|refine kN ?_ _|refine kD ?_|refine kA ?_ _)); refine blk_far ?_ NB182_183.out _; (with_reducible repeat (first|refine kN ?_ _|refine kD ?_|refine kA ?_ _)); exact BK182.out) hb); have n4_ := Aside0.mk (blk_below (g := gb183) (o := .cells #[.slice Ao12 t184.length co12, .slice none 0 0, .slice none 0 0] 26 (0, 0)) (by (with_reducible repeat (first|refine kN ?_ _|refine kD ?_|refine kA ?_ _)); refine blk_put (cs := #[.slice none 0 0, .slice none 0 0, .slice none 0 0]) ?_ 0 _ rfl; (with_reducible repeat (first|refine kN ?_ _|refine kD ?_|refine kA ?_ _)); exact BK183.out) hb); have n5_ := Aside0.mk (below_step (bX3 HB.out GE181.out GE182.out GE183.out) hb); clear HO186 BK181 BK182 BK183 HB; have HO186 := n0_; have HO189 := n1_; have BK181 := n2_; have BK182 := n3_; have BK183 := n4_; have HB := n5_; clear n0_ n1_ n2_ n3_ n4_ n5_; (try clear hb); (try clear hb2); (try clear hk); (try clear hi); (try clear ho0); obtain ⟨Ao17, co17, eo17⟩ := Kd.R_slice HO189.out; subst eo17; have hcz18_0 := cz30 BK183.out; have hcz18_1 := cz31 BK183.out; have hcz18_2 := cz32 BK183.out; have hfz18_0 := blk_frozen BK183.out 0; have hfz18_1 := blk_frozen BK183.out 1; have hfz18_2 := blk_frozen BK183.out 2; have hcz19_0 := cz30 BK181.out; have hcz19_1 := cz31 BK181.out; have hcz19_2 := cz32 BK181.out; have hfz19_0 := blk_frozen BK181.out 0; have hfz19_1 := blk_frozen BK181.out 1; have hfz19_2 := blk_frozen BK181.out 2) | ((with_reducible refine gate_callee (f := 30) rfl ?_); refine goesL_ (some 14) rfl rfl Try.func30 (by kernel_rfl) rfl #[.slice A0_2 l0_2.length c0_2] rfl aX ?_; (with_reducible refine (laws_toIntS.calls k _ _ l0_2 t190 _ ?side1 ?side2 A4.out).mono ?_); (case side1 => exact Kd.C_below HR0_2.out (bX3 HB.out GE181.out GE182.out GE183.out)); (case side2 => exact HC0_2.out); rintro e w20 ⟨v191, rfl, ho0, hb⟩; refine ⟨_, rfl, ?_⟩; have n0_ := Aside0.mk (Kd.R_elder' (by (with_reducible repeat (first|apply rA|apply rN|apply rD)); exact (Kd.R_mono (Kd.R_far (p := ⟨gb183, 1, none⟩) (Kd.R_types HO186.out BK183.out (by decide)) (fun _ hk => hk.2) (.slice Ao17 t187.length co17)) (fun _ h_ => h_.1))) (Kd.R_base ho0) hb); have n1_ := Aside0.mk (Kd.R_elder' (by (with_reducible repeat (first|apply rA|apply rN|apply rD)); exact (Kd.R_mono (Kd.R_far (p := ⟨gb183, 1, none⟩) (Kd.R_types HO189.out BK183.out (by decide)) (fun _ hk => hk.2) (.slice Ao17 t187.length co17)) (fun _ h_ => h_.1))) (Kd.R_base ho0) hb); have n2_ := Aside0.mk (Kd.R_lower (Kd.R_new' (Kd.R_new' ho0 (Kd.R_lt (by (with_reducible repeat (first|apply rA|apply rN|apply rD)); exact (Kd.R_mono (Kd.R_far (p := ⟨gb183, 1, none⟩) (Kd.R_types HO186.out BK183.out (by decide)) (fun _ hk => hk.2) (.slice Ao17 t187.length co17)) (fun _ h_ => h_.1))))) (Kd.R_lt (by (with_reducible repeat (first|apply rA|apply rN|apply rD)); exact (Kd.R_mono (Kd.R_far (p := ⟨gb183, 1, none⟩) (Kd.R_types HO189.out BK183.out (by decide)) (fun _ hk => hk.2) (.slice Ao17 t187.length co17)) (fun _ h_ => h_.1))))) (below_size (bX3 HB.out GE181.out GE182.out GE183.out))); have n3_ := Aside0.mk (blk_below (g := gb181) (o := .cells #[.slice A0_0 l0_0.length c0_0, .slice A0_1 l0_1.length c0_1, .slice A0_2 l0_2.length c0_2] 24 (0, 0)) (by (with_reducible repeat (first|refine kN ?_ _|refine kD ?_|refine kA ?_ _)); refine blk_far ?_ NB181_183.out _; (with_reducible repeat (first|refine kN ?_ _|refine kD ?_|refine kA ?_ _)); exact BK181.out) hb); have n4_ := Aside0.mk (blk_below (g := gb182) (o := .cells #[.slice none 0 0, .slice none 0 0, .slice none 0 0] 26 (0, 0)) (by (with_reducible repeat (first|refine kN ?_ _|refine kD ?_|refine kA ?_ _)); refine blk_far ?_ NB182_183.out _; (with_reducible repeat (first|refine kN ?_ _|refine kD ?_|refine kA ?_ _)); exact BK182.out) hb); have n5_ := Aside0.mk (blk_below (g := gb183) (o := .cells #[.slice Ao12 t184.length co12, .slice Ao17 t187.length co17, .slice none 0 0] 26 (0, 0)) (by (with_reducible repeat (first|refine kN ?_ _|refine kD ?_|refine kA ?_ _)); refine blk_put (cs := #[.slice Ao12 t184.length co12, .slice none 0 0, .slice none 0 0]) ?_ 1 _ rfl; (with_reducible repeat (first|refine kN ?_ _|refine kD ?_|refine kA ?_ _)); exact BK183.out) hb); have n6_ := Aside0.mk (below_step (bX3 HB.out GE181.out GE182.out GE183.out) hb); clear HO186 HO189 BK181 BK182 BK183 HB; have HO186 := n0_; have HO189 := n1_; have HO192 := n2_; have BK181 := n3_; have BK182 := n4_; have BK183 := n5_; have HB := n6_; clear n0_ n1_ n2_ n3_ n4_ n5_ n6_; (try clear hb); (try clear hb2); (try clear hk); (try clear hi); (try clear ho0); obtain ⟨Ao21, co21, eo21⟩ := Kd.R_slice HO192.out; subst eo21; have hcz22_0 := cz30 BK183.out; have hcz22_1 := cz31 BK183.out; have hcz22_2 := cz32 BK183.out; have hfz22_0 := blk_frozen BK183.out 0; have hfz22_1 := blk_frozen BK183.out 1; have hfz22_2 := blk_frozen BK183.out 2; have hcz23_0 := cz30 BK182.out; have hcz23_1 := cz31 BK182.out; have hcz23_2 := cz32 BK182.out; have hfz23_0 := blk_frozen BK182.out 0; have hfz23_1 := blk_frozen BK182.out 1; have hfz23_2 := blk_frozen BK182.out 2))
 refine bodyPost_ret (results_cell_row rfl _ _ gb182 26 #[.slice Ao12 t184.length co12, .slice Ao17 t187.length co17, .slice Ao21 t190.length co21] (0, 0) _ rfl (by (with_reducible repeat (first|refine kN ?_ _|refine kD ?_|refine kA ?_ _)); refine blk_put (cs := #[.slice Ao12 t184.length co12, .slice Ao17 t187.length co17, .slice none 0 0]) ?_ 2 _ rfl; (with_reducible repeat (first|refine kN ?_ _|refine kD ?_|refine kA ?_ _)); refine blk_put (cs := #[.slice Ao12 t184.length co12, .slice none 0 0, .slice none 0 0]) ?_ 1 _ rfl; (with_reducible repeat (first|refine kN ?_ _|refine kD ?_|refine kA ?_ _)); refine blk_put (cs := #[.slice none 0 0, .slice none 0 0, .slice none 0 0]) ?_ 0 _ rfl; (with_reducible repeat (first|refine kN ?_ _|refine kD ?_|refine kA ?_ _)); refine blk_far ?_ NB182_183.out _; (with_reducible repeat (first|refine kN ?_ _|refine kD ?_|refine kA ?_ _)); exact BK182.out) Try.underlying26 rfl (by kernel_rfl)) rfl ?_
 exact ⟨_, _, _, eX, by (with_reducible repeat (first|apply rA|apply rN|apply rD)); exact Kd.R_mono (Kd.R_far (p := ⟨gb182, 2, none⟩) (Kd.R_far (p := ⟨gb182, 1, none⟩) (Kd.R_far (p := ⟨gb182, 0, none⟩) (Kd.R_far (p := ⟨gb183, 2, none⟩) (Kd.R_types (Kd.R_types HO186.out BK183.out (by decide)) BK182.out (by decide)) (fun _ hk => hk.1.2) (.slice Ao21 t190.length co21)) (fun _ hk => hk.2) (.slice Ao12 t184.length co12)) (fun _ hk => hk.2) (.slice Ao17 t187.length co17)) (fun _ hk => hk.2) (.slice Ao21 t190.length co21)) (fun _ hk => ⟨hk.1.1.1.2, hk.1.1.2⟩), by (with_reducible repeat (first|apply rA|apply rN|apply rD)); exact Kd.R_mono (Kd.R_far (p := ⟨gb182, 2, none⟩) (Kd.R_far (p := ⟨gb182, 1, none⟩) (Kd.R_far (p := ⟨gb182, 0, none⟩) (Kd.R_far (p := ⟨gb183, 2, none⟩) (Kd.R_types (Kd.R_types HO189.out BK183.out (by decide)) BK182.out (by decide)) (fun _ hk => hk.1.2) (.slice Ao21 t190.length co21)) (fun _ hk => hk.2) (.slice Ao12 t184.length co12)) (fun _ hk => hk.2) (.slice Ao17 t187.length co17)) (fun _ hk => hk.2) (.slice Ao21 t190.length co21)) (fun _ hk => ⟨hk.1.1.1.2, hk.1.1.2⟩), by (with_reducible repeat (first|apply rA|apply rN|apply rD)); exact Kd.R_mono (Kd.R_far (p := ⟨gb182, 2, none⟩) (Kd.R_far (p := ⟨gb182, 1, none⟩) (Kd.R_far (p := ⟨gb182, 0, none⟩) (Kd.R_far (p := ⟨gb183, 2, none⟩) (Kd.R_types (Kd.R_types HO192.out BK183.out (by decide)) BK182.out (by decide)) (fun _ hk => hk.1.2) (.slice Ao21 t190.length co21)) (fun _ hk => hk.2) (.slice Ao12 t184.length co12)) (fun _ hk => hk.2) (.slice Ao17 t187.length co17)) (fun _ hk => hk.2) (.slice Ao21 t190.length co21)) (fun _ hk => ⟨hk.1.1.1.2, hk.1.1.2⟩), bX3 HB.out GE181.out GE182.out GE183.out⟩

/-! ### impl_PermOk: function 42 -/
def permGo (n : Int) : List Int → List Bool → Bool
  | [], _ => true
  | x :: xs, seen => if x < 0 then false else if n ≤ x then false else if seen.getD x.toNat false = true then false else permGo n xs (seen.set x.toNat true)
def no24 : List Bool := List.replicate 24 false
theorem no24_len : no24.length = 24 := rfl
def permB (p : List Int) : Bool := if p.length ≤ 24 then permGo p.length p no24 else false
def impl_PermOk.f (l0 : List Int) : Option Bool := some (permB l0)
def flags (l : List Bool) : Array Value := (bools l).toArray
theorem flags_size (l : List Bool) : (flags l).size = l.length := by simp [flags, bools]
theorem flags_one (l : List Bool) : (flags l).all (·.oneCell') = true := by
 simp [flags, bools, Value.oneCell']
theorem flags_get (l : List Bool) (i : Int) (h0 : 0 ≤ i) (h : i < l.length) : (flags l)[i.toNat]? = some (.bool (l.getD i.toNat false)) := by
 have : i.toNat < l.length := by omega
 simp [flags, bools, this]
theorem flags_set (l : List Bool) (i : Nat) (b : Bool) : (flags l).setIfInBounds i (.bool b) = flags (l.set i b) := by
 simp [flags, bools]
set_option maxHeartbeats 8000000 in
set_option maxRecDepth 100000 in
theorem impl_PermOk.calls_le (A0 : Option Addr) (c0 : Nat) (l0 : List (Int)) (r : Bool) (w : World) (hr0 : Kd.C (Kd.int .i64) w A0 l0.length l0) (hc0 : l0.length ≤ c0) (hle : l0.length ≤ 24) (hres : permGo l0.length l0 no24 = r) :
    Calls Try.prog 42 #[.slice A0 l0.length c0] w fun e w' => e = .returned (.bool r) ∧ Below w.heap.size w w' := by
 have HR0 := Aside0.mk hr0
 clear hr0
 have HRES := Aside0.mk hres
 clear hres
 have hu := Try.underlying76
 have hb24 : decide (24 < (l0.length : Int)) = false := decide_eq_false (by omega)
 have HF : Aside0 (flags no24 = #[.bool false, .bool false, .bool false, .bool false, .bool false, .bool false, .bool false, .bool false, .bool false, .bool false, .bool false, .bool false, .bool false, .bool false, .bool false, .bool false, .bool false, .bool false, .bool false, .bool false, .bool false, .bool false, .bool false, .bool false]) := ⟨rfl⟩
 go_enter Try.func42, Try.ntmps42
 go_wp2_with (first
  | ((with_reducible refine gate_dst (N := 6) rfl ?_); refine wpList_build rfl 76 #[] rfl (by kernel_rfl) ?_; rw [show (Value.agg ((Try.prog.built 76 ((#[] : Array (Nat × Operand)).map fun (i, x) => (i, Act.eval _ x)).toList).getD #[])) = .agg (flags no24) from by kernel_rfl])
  | ((with_reducible refine gate_dst (N := 3) rfl ?_); refine box_event ?hg (N := 3) ?hd (cs := flags no24) (t := 76) ?hr ?_; (case hd => rfl); (case hg => rfl); (case hr => rw [HF.out]; first | (go_simp; done) | (go_simp; rfl)); intro gb hg w8 hbox hb; have BK := Aside0.mk hbox; have HB := Aside0.mk hb; have GB := Aside0.mk hg; clear hbox hb hg)
  | (refine wpList_store_row rfl 76 (.tmp 3) (.tmp 6) rfl gb (flags no24) rfl rfl 76 (flags no24) BK.out (by kernel_rfl) rfl (flags_one _) ?_))
 have HC := Aside0.mk (show (w8.setRow gb (flags no24)).heap[gb]? = some (.cells (flags no24) 76 (0, 0)) from setRow_heap w8 gb (flags no24) (flags no24) 76 _ BK.out)
 have HB2 := Aside0.mk (show Below w.heap.size w (w8.setRow gb (flags no24)) from below_setRow HB.out (by rw [GB.out]; exact Nat.le_refl _) _)
 go_loopg [12] (l0.length + 1) (fun kq v12 w' => ∃ (i : Int) (seen : List Bool), v12 = .int .i64 i ∧ Aside0 (0 ≤ i ∧ i ≤ l0.length ∧ (kq : Int) + i = l0.length + 1 ∧ seen.length = 24 ∧ permGo l0.length (l0.drop i.toNat) seen = r) ∧ Aside0 (w'.heap[gb]? = some (.cells (flags seen) 76 (0, 0))) ∧ Aside0 (Below w.heap.size w w'))
 case atStart => exact ⟨0, no24, rfl, ⟨by omega, by omega, by simp, no24_len, HRES.out⟩, HC, HB2⟩
 case round =>
 clear HC HB2 BK HB
 obtain ⟨i, seen, rfl, HI, HC, HB⟩ := hrel
 obtain ⟨hi0, hi1, hik, hsl, hgo⟩ := HI.out
 clear HI
 obtain ⟨k1, rfl⟩ : ∃ m, gk = m + 1 := ⟨gk - 1, by omega⟩
 have HGO := Aside0.mk hgo
 have HK := Aside0.mk hik
 clear hgo hik
 by_cases hlt : i < (l0.length : Int)
 {
 have c1 : decide (i < (l0.length : Int)) = true := decide_eq_true hlt
 obtain ⟨ad, ead, hx⟩ := Kd.at_int (Kd.C_below HR0.out HB.out) i hi0 hlt
 cases ead
 have hdrop : l0.drop i.toNat = rd l0 i :: l0.drop (i + 1).toNat := by
  have h1 : i.toNat < l0.length := by omega
  rw [show (i + 1).toNat = i.toNat + 1 by omega, List.drop_eq_getElem_cons h1]
  simp [rd, List.getD, h1]
 have HD := Aside0.mk hdrop
 clear hdrop
 generalize hX : rd l0 i = x at *
 have HX := Aside0.mk hX
 clear hX
 have p0 : decide (0 ≤ i) = true := decide_eq_true hi0
 have HW := Aside0.mk (show wrap64 (i + 1) = i + 1 from by unfold wrap64; omega)
 replace hi0 := eq_true hi0
 replace hlt := eq_true hlt
 by_cases h1 : x < 0
 {
 have c2 : decide (x < 0) = true := decide_eq_true h1
 have hr : r = false := by
  have := HGO.out
  rw [HD.out] at this
  simp only [permGo] at this
  rw [if_pos h1] at this
  exact this.symm
 subst hr
 clear h1
 go_wp2
 go_ret
 exact ⟨rfl, HB.out⟩
 }
 {
 have c2 : decide (x < 0) = false := decide_eq_false h1
 have h1' : 0 ≤ x := by omega
 by_cases h2 : (l0.length : Int) ≤ x
 {
 have c3 : decide ((l0.length : Int) ≤ x) = true := decide_eq_true h2
 have hr : r = false := by
  have := HGO.out
  rw [HD.out] at this
  simp only [permGo] at this
  rw [if_neg h1, if_pos h2] at this
  exact this.symm
 subst hr
 clear h1 h2
 go_wp2
 go_ret
 exact ⟨rfl, HB.out⟩
 }
 {
 have c3 : decide ((l0.length : Int) ≤ x) = false := decide_eq_false h2
 have hx24 : x < 24 := by omega
 have hcell : ∀ b, seen.getD x.toNat false = b → wr.cell? ⟨gb, x.toNat, none⟩ = some (.bool b) := by
  intro b hb
  rw [Go.Joins.cell_of_block HC.out, flags_get seen x h1' (by omega), hb]
 have hfro := Go.Joins.unfrozen_of_block HC.out x.toNat
 have hsx : decide (0 ≤ x) = true := decide_eq_true h1'
 have hsx2 : decide (x < 24) = true := decide_eq_true hx24
 by_cases h3 : seen.getD x.toNat false = true
 {
 have hr : r = false := by
  have := HGO.out
  rw [HD.out] at this
  simp only [permGo] at this
  rw [if_neg h1, if_neg h2, if_pos h3] at this
  exact this.symm
 subst hr
 have hc2 := hcell true h3
 clear h1 h2 h3 hcell
 go_wp2
 go_ret
 exact ⟨rfl, HB.out⟩
 }
 {
 have h3' : seen.getD x.toNat false = false := by simpa using h3
 have hg2 : permGo l0.length (l0.drop (i + 1).toNat) (seen.set x.toNat true) = r := by
  have := HGO.out
  rw [HD.out] at this
  simp only [permGo] at this
  rw [if_neg h1, if_neg h2, if_neg h3] at this
  exact this
 have HG2 := Aside0.mk hg2
 have hc2 := hcell false h3'
 have HC2 : Aside0 ((wr.setCell ⟨gb, x.toNat, none⟩ (.bool true)).heap[gb]? = some (.cells (flags (seen.set x.toNat true)) 76 (0, 0))) := ⟨by rw [Go.Joins.block_setCell HC.out, flags_set]⟩
 have HB2 : Aside0 (Below w.heap.size w (wr.setCell ⟨gb, x.toNat, none⟩ (.bool true))) := ⟨HB.out.setCell (by rw [GB.out]; exact Nat.le_refl _) _⟩
 clear h1 h2 h3 h3' hg2 hcell
 go_wp2
 go_roundg k1
 case measure => omega
 case rel => exact ⟨i + 1, _, by rw [HW.out], ⟨by simp at hi0; omega, by simp at hlt; omega, by have := HK.out; simp at this ⊢; omega, by simpa using hsl, HG2.out⟩, HC2, HB2⟩
 }
 }
 }
 }
 {
 have hie : i = l0.length := by omega
 have hr : r = true := by
  have := HGO.out
  rw [show l0.drop i.toNat = [] from by rw [hie]; simp] at this
  simp only [permGo] at this
  exact this.symm
 subst hr
 have c1 : decide (i < (l0.length : Int)) = false := decide_eq_false hlt
 clear hlt hie
 go_wp2
 go_ret
 exact ⟨rfl, HB.out⟩
 }
set_option maxHeartbeats 8000000 in
set_option maxRecDepth 100000 in
theorem impl_PermOk.calls (A0 : Option Addr) (c0 : Nat) (l0 : List Int) (r : Bool) (w : World) (hr0 : Kd.C (Kd.int .i64) w A0 l0.length l0) (hc0 : l0.length ≤ c0) (h : impl_PermOk.f l0 = some r) :
    Calls Try.prog 42 #[.slice A0 l0.length c0] w fun e w' => e = .returned (.bool r) ∧ Below w.heap.size w w' := by
 unfold impl_PermOk.f permB at h
 by_cases hle : l0.length ≤ 24
 {
 rw [if_pos hle] at h
 exact impl_PermOk.calls_le A0 c0 l0 r w hr0 hc0 hle (Option.some.inj h)
 }
 {
 rw [if_neg hle] at h
 obtain rfl := Option.some.inj h
 have HR0 := Aside0.mk hr0
 clear hr0
 have hu := Try.underlying76
 have hb24 : decide (24 < (l0.length : Int)) = true := decide_eq_true (by omega)
 have HF : Aside0 (flags no24 = #[.bool false, .bool false, .bool false, .bool false, .bool false, .bool false, .bool false, .bool false, .bool false, .bool false, .bool false, .bool false, .bool false, .bool false, .bool false, .bool false, .bool false, .bool false, .bool false, .bool false, .bool false, .bool false, .bool false, .bool false]) := ⟨rfl⟩
 clear hle
 go_enter Try.func42, Try.ntmps42
 go_wp2_with (first
  | ((with_reducible refine gate_dst (N := 6) rfl ?_); refine wpList_build rfl 76 #[] rfl (by kernel_rfl) ?_; rw [show (Value.agg ((Try.prog.built 76 ((#[] : Array (Nat × Operand)).map fun (i, x) => (i, Act.eval _ x)).toList).getD #[])) = .agg (flags no24) from by kernel_rfl])
  | ((with_reducible refine gate_dst (N := 3) rfl ?_); refine box_event ?hg (N := 3) ?hd (cs := flags no24) (t := 76) ?hr ?_; (case hd => rfl); (case hg => rfl); (case hr => rw [HF.out]; first | (go_simp; done) | (go_simp; rfl)); intro gb hg w8 hbox hb; have BK := Aside0.mk hbox; have HB := Aside0.mk hb; have GB := Aside0.mk hg; clear hbox hb hg)
  | (refine wpList_store_row rfl 76 (.tmp 3) (.tmp 6) rfl gb (flags no24) rfl rfl 76 (flags no24) BK.out (by kernel_rfl) rfl (flags_one _) ?_))
 have HB2 := Aside0.mk (show Below w.heap.size w (w8.setRow gb (flags no24)) from below_setRow HB.out (by rw [GB.out]; exact Nat.le_refl _) _)
 go_ret
 exact ⟨rfl, HB2.out⟩
 }

/-! ### impl_ExchangeOk: function 31 -/
mutual
def impl_ExchangeOk.j0 : Nat → Int → Bool → List Int → List Int → List Int → Option (Bool)
 | 0, _, _, _, _, _ => none
 | k + 1, x3, x15, x194000, x194001, x194002 => if x15 = true then (some false) else (impl_ExchangeOk.l0 k x3 0 x194000 (x194000.length : Int) 0 x194000 x194001 x194002)
def impl_ExchangeOk.l0 : Nat → Int → Int → List Int → Int → Int → List Int → List Int → List Int → Option (Bool)
 | 0, _, _, _, _, _, _, _, _ => none
 | k + 1, x3, x4, x17, x18, x19, x194000, x194001, x194002 => if x19 < x18 then (if 0 ≤ x19 then (if x19 < (x17.length : Int) then (if (rd x17 x19) < 1 then (some false) else (if (rd x17 x19) > 60 then (some false) else (impl_ExchangeOk.l0 k x3 (wrap64 (x4 + (rd x17 x19))) x17 x18 (wrap64 (x19 + 1)) x194000 x194001 x194002))) else (none)) else (none)) else (if x4 ≤ 60 then ((impl_PermOk.f x194001).bind fun t195 => (if t195 = true then ((impl_PermOk.f x194002).bind fun t196 => (if t196 = true then (if (x194001.length : Int) = x3 then (some ((x194002.length : Int) == x3)) else (some false)) else (some false))) else (some false))) else (some false))
end
def impl_ExchangeOk.f (k : Nat) (l0_0 : List Int) (l0_1 : List Int) (l0_2 : List Int) : Option (Bool) := if (l0_0.length : Int) < 1 then (impl_ExchangeOk.j0 k (l0_0.length : Int) true l0_0 l0_1 l0_2) else (impl_ExchangeOk.j0 k (l0_0.length : Int) (decide ((l0_0.length : Int) > 6)) l0_0 l0_1 l0_2)
set_option maxHeartbeats 8000000 in
set_option maxRecDepth 100000 in
theorem impl_ExchangeOk.calls (k : Nat) (A0_0 : Option Addr) (c0_0 : Nat) (l0_0 : List Int) (A0_1 : Option Addr) (c0_1 : Nat) (l0_1 : List Int) (A0_2 : Option Addr) (c0_2 : Nat) (l0_2 : List Int) (r : Bool) (w : World) (hr0_0 : Kd.C (Kd.int .i64) w A0_0 l0_0.length l0_0) (hc0_0 : l0_0.length ≤ c0_0) (hr0_1 : Kd.C (Kd.int .i64) w A0_1 l0_1.length l0_1) (hc0_1 : l0_1.length ≤ c0_1) (hr0_2 : Kd.C (Kd.int .i64) w A0_2 l0_2.length l0_2) (hc0_2 : l0_2.length ≤ c0_2) (h : impl_ExchangeOk.f k l0_0 l0_1 l0_2 = some r) :
  Calls Try.prog 31 #[.agg #[.slice A0_0 l0_0.length c0_0, .slice A0_1 l0_1.length c0_1, .slice A0_2 l0_2.length c0_2]] w fun e w' => e = .returned (.bool r) ∧ Below w.heap.size w w' := by
 have hu26 := Try.underlying26
 have HR0_0 := Aside0.mk hr0_0
 have HC0_0 := Aside0.mk hc0_0
 clear hr0_0 hc0_0
 have HR0_1 := Aside0.mk hr0_1
 have HC0_1 := Aside0.mk hc0_1
 clear hr0_1 hc0_1
 have HR0_2 := Aside0.mk hr0_2
 have HC0_2 := Aside0.mk hc0_2
 clear hr0_2 hc0_2
 have HB := Aside0.mk (Below.refl w.heap.size w)
 have H : (if (l0_0.length : Int) < 1 then (impl_ExchangeOk.j0 k (l0_0.length : Int) true l0_0 l0_1 l0_2) else (impl_ExchangeOk.j0 k (l0_0.length : Int) (decide ((l0_0.length : Int) > 6)) l0_0 l0_1 l0_2)) = some r := h
 clear h
 have HC2 := Aside0.mk H
 clear H
 go_enter Try.func31, Try.ntmps31
 go_upto_region 2 with (first | ((with_reducible refine gate_dst (N := 1) rfl ?_); (try (refine gate_guard (by rfl) ?_; dsimp only)); refine box_event ?hg (N := 1) ?hd (cs := #[.slice A0_0 l0_0.length c0_0, .slice A0_1 l0_1.length c0_1, .slice A0_2 l0_2.length c0_2]) (t := 26) ?hr ?_; (case hd => rfl); (case hg => rfl); (case hr => first | (go_simp; done) | (go_simp; rfl)); intro gb193 hg w3 hbox hb; have n0_ := Aside0.mk (below_step (bX HB.out) hb); have n1_ := Aside0.mk (hbox); have n2_ := Aside0.mk ((szX (below_size (bX HB.out)) hg : w.heap.size ≤ gb193)); have n3_ := Aside0.mk ((szX (below_size (bX HB.out)) hg : w.heap.size ≤ gb193)); clear HB; have HB := n0_; have BK193 := n1_; have GW193 := n2_; have GE193 := n3_; clear n0_ n1_ n2_ n3_ hb hbox hg; have hcz4_0 := cz30 BK193.out; have hcz4_1 := cz31 BK193.out; have hcz4_2 := cz32 BK193.out; have hfz4_0 := blk_frozen BK193.out 0; have hfz4_1 := blk_frozen BK193.out 1; have hfz4_2 := blk_frozen BK193.out 2))
 (try simp only [Act.put, List.setIfInBounds_toArray, List.set_cons_zero, List.set_cons_succ])
 go_cut [15] (fun v15 wc => ∃ (kq : Nat) (x15_1 : Bool), v15 = .bool x15_1 ∧ Aside0 (impl_ExchangeOk.j0 kq (l0_0.length : Int) x15_1 l0_0 l0_1 l0_2 = some r) ∧ Aside0 (kq ≤ k) ∧ Aside0 (wc.heap[gb193]? = some (.cells #[(.slice A0_0 l0_0.length c0_0), (.slice A0_1 l0_1.length c0_1), (.slice A0_2 l0_2.length c0_2)] 26 (0, 0))) ∧ Aside0 (Below w.heap.size w wc))
 case first =>
  have H := HC2.out
  clear HC2
  by_cases c5 : (l0_0.length : Int) < 1
  {
  rw [if_pos c5] at H
  have c5b0 : decide ((l0_0.length : Int) < 1) = true := decide_eq_true c5
  have c5b1 : decide (l0_0.length < 1) = true := decide_eq_true (by omega)
  clear c5
  (first | rw [c5b0] | (simp only [i64_w, i32_w]; rw [c5b0]) | skip)
  have H' := Aside0.mk H
  clear H
  go_wp2
  go_meet
  case rel => exact ⟨_, (true), vX, H', ⟨by first | omega | exact Nat.le_refl _⟩, ⟨kX BK193.out⟩, ⟨bX1 HB.out GE193.out⟩⟩
  }
  {
  rw [if_neg c5] at H
  have c5b0 : decide ((l0_0.length : Int) < 1) = false := decide_eq_false c5
  have c5b1 : decide (l0_0.length < 1) = false := decide_eq_false (by omega)
  clear c5
  (first | rw [c5b0] | (simp only [i64_w, i32_w]; rw [c5b0]) | skip)
  have H' := Aside0.mk H
  clear H
  go_wp2
  go_meet
  case rel => exact ⟨_, (decide ((l0_0.length : Int) > 6)), vX, H', ⟨by first | omega | exact Nat.le_refl _⟩, ⟨kX BK193.out⟩, ⟨bX1 HB.out GE193.out⟩⟩
  }
 case rest =>
 clear HC2
 try clear p2
 try clear c3
 try clear c5
 try clear c5b0
 try clear c5b1
 try clear hcz4_0
 try clear hcz4_1
 try clear hcz4_2
 try clear hfz4_0
 try clear hfz4_1
 try clear hfz4_2
 obtain ⟨kq, x15_1, rfl, HA, HJ1, BK193, HB⟩ := hcut
 cases kq with
 | zero => exact absurd HA.out (by simp [impl_ExchangeOk.j0])
 | succ kj1 =>
 have H := HA.out
 clear HA
 simp only [impl_ExchangeOk.j0] at H
 by_cases c6 : x15_1 = true
 {
 subst c6
 have H1 : (some false) = some r := by rw [if_pos rfl] at H; exact H
 clear H
 have H := H1
 clear H1
 obtain rfl := Option.some.inj H
 go_wp2
 go_ret
 exact ⟨eX, bX1 HB.out GE193.out⟩
 }
 {
 replace c6 := Bool.eq_false_iff.mpr c6
 subst c6
 have H1 : (impl_ExchangeOk.l0 kj1 (l0_0.length : Int) 0 l0_0 (l0_0.length : Int) 0 l0_0 l0_1 l0_2) = some r := by rw [if_neg (show ¬ (false = true) by decide)] at H; exact H
 clear H
 have H := H1
 clear H1
 have H' := Aside0.mk H
 clear H
 have hcz7_0 := cz30 BK193.out
 have hcz7_1 := cz31 BK193.out
 have hcz7_2 := cz32 BK193.out
 have hfz7_0 := blk_frozen BK193.out 0
 have hfz7_1 := blk_frozen BK193.out 1
 have hfz7_2 := blk_frozen BK193.out 2
 go_wp2
 go_loopg [4, 19] kj1 (fun kq v4 v19 w' => ∃ (x4_2 : Int) (x19_2 : Int), v4 = .int .i64 x4_2 ∧ v19 = .int .i64 x19_2 ∧ Aside0 (impl_ExchangeOk.l0 kq (l0_0.length : Int) x4_2 l0_0 (l0_0.length : Int) x19_2 l0_0 l0_1 l0_2 = some r) ∧ Aside0 (kq ≤ kj1) ∧ Aside0 (w'.heap[gb193]? = some (.cells #[(.slice A0_0 l0_0.length c0_0), (.slice A0_1 l0_1.length c0_1), (.slice A0_2 l0_2.length c0_2)] 26 (0, 0))) ∧ Aside0 (Below w.heap.size w w'))
 case atStart => exact ⟨(0), (0), vX, vX, H', ⟨Nat.le_refl _⟩, ⟨kX BK193.out⟩, ⟨bX1 HB.out GE193.out⟩⟩
 case round =>
 clear H'
 try clear p2
 try clear c3
 try clear c5
 try clear c5b0
 try clear c5b1
 try clear c6
 try clear hcz4_0
 try clear hcz4_1
 try clear hcz4_2
 try clear hcz7_0
 try clear hcz7_1
 try clear hcz7_2
 try clear hfz4_0
 try clear hfz4_1
 try clear hfz4_2
 try clear hfz7_0
 try clear hfz7_1
 try clear hfz7_2
 try clear p2
 obtain ⟨x4_2, x19_2, rfl, rfl, HA, HK2, BK193, HB⟩ := hrel
 cases gk with
 | zero => exact absurd HA.out (by simp [impl_ExchangeOk.l0])
 | succ k2 =>
 have H := HA.out
 clear HA
 simp only [impl_ExchangeOk.l0] at H
 by_cases c8 : x19_2 < (l0_0.length : Int)
 {
 rw [if_pos c8] at H
 have c8b0 : decide (x19_2 < (l0_0.length : Int)) = true := decide_eq_true c8
 clear c8
 by_cases c9 : 0 ≤ x19_2
 {
 rw [if_pos c9] at H
 have c9b0 : decide (0 ≤ x19_2) = true := decide_eq_true c9
 clear c9
 by_cases c10 : x19_2 < (l0_0.length : Int)
 {
 rw [if_pos c10] at H
 have c10b0 : decide (x19_2 < (l0_0.length : Int)) = true := decide_eq_true c10
 clear c10
 by_cases c11 : (rd l0_0 x19_2) < 1
 {
 rw [if_pos c11] at H
 have c11b0 : decide ((rd l0_0 x19_2) < 1) = true := decide_eq_true c11
 clear c11
 obtain rfl := Option.some.inj H
 have p194 : 0 ≤ (x19_2 : Int) := dX
 have q194 : x19_2 < (l0_0.length : Int) := dX
 obtain ⟨ad194, e194, hx194_0⟩ := Kd.at_int HR0_0.out x19_2 p194 q194
 cases e194
 replace hx194_0 := (HB.out.cell (World.block_lt_of_cell? w _ hx194_0)).trans hx194_0
 replace p194 := eq_true p194
 replace q194 := eq_true q194
 go_wp2
 go_ret
 exact ⟨eX, bX1 HB.out GE193.out⟩
 }
 {
 rw [if_neg c11] at H
 have c11b0 : decide ((rd l0_0 x19_2) < 1) = false := decide_eq_false c11
 clear c11
 by_cases c12 : (rd l0_0 x19_2) > 60
 {
 rw [if_pos c12] at H
 have c12b0 : decide (60 < (rd l0_0 x19_2)) = true := decide_eq_true c12
 clear c12
 obtain rfl := Option.some.inj H
 have p194 : 0 ≤ (x19_2 : Int) := dX
 have q194 : x19_2 < (l0_0.length : Int) := dX
 obtain ⟨ad194, e194, hx194_0⟩ := Kd.at_int HR0_0.out x19_2 p194 q194
 cases e194
 replace hx194_0 := (HB.out.cell (World.block_lt_of_cell? w _ hx194_0)).trans hx194_0
 replace p194 := eq_true p194
 replace q194 := eq_true q194
 go_wp2
 go_ret
 exact ⟨eX, bX1 HB.out GE193.out⟩
 }
 {
 rw [if_neg c12] at H
 have c12b0 : decide (60 < (rd l0_0 x19_2)) = false := decide_eq_false c12
 clear c12
 have H' := Aside0.mk H
 clear H
 have p194 : 0 ≤ (x19_2 : Int) := dX
 have q194 : x19_2 < (l0_0.length : Int) := dX
 obtain ⟨ad194, e194, hx194_0⟩ := Kd.at_int HR0_0.out x19_2 p194 q194
 cases e194
 replace hx194_0 := (HB.out.cell (World.block_lt_of_cell? w _ hx194_0)).trans hx194_0
 replace p194 := eq_true p194
 replace q194 := eq_true q194
 go_wp2
 go_roundg k2
 case measure => have := HJ1.out; have := HK2.out; omega
 case rel => exact ⟨(wrap64 (x4_2 + (rd l0_0 x19_2))), (wrap64 (x19_2 + 1)), vX, vX, H', ⟨by have := HJ1.out; have := HK2.out; omega⟩, ⟨kX BK193.out⟩, ⟨bX1 HB.out GE193.out⟩⟩
 }
 }
 }
 {
 rw [if_neg c10] at H
 exact absurd H (by simp)
 }
 }
 {
 rw [if_neg c9] at H
 exact absurd H (by simp)
 }
 }
 {
 rw [if_neg c8] at H
 have c8b0 : decide (x19_2 < (l0_0.length : Int)) = false := decide_eq_false c8
 clear c8
 by_cases c13 : x4_2 ≤ 60
 {
 rw [if_pos c13] at H
 have c13b0 : decide (x4_2 ≤ 60) = true := decide_eq_true c13
 clear c13
 replace H := Option.bind_eq_some_iff.mp H
 obtain ⟨t195, A140, H⟩ := H
 replace H : (if t195 = true then ((impl_PermOk.f l0_2).bind fun t196 => (if t196 = true then (if (l0_1.length : Int) = (l0_0.length : Int) then (some ((l0_2.length : Int) == (l0_0.length : Int))) else (some false)) else (some false))) else (some false)) = some r := H
 have A14 := Aside0.mk A140
 clear A140
 by_cases c15 : t195 = true
 {
 subst c15
 have H1 : ((impl_PermOk.f l0_2).bind fun t196 => (if t196 = true then (if (l0_1.length : Int) = (l0_0.length : Int) then (some ((l0_2.length : Int) == (l0_0.length : Int))) else (some false)) else (some false))) = some r := by rw [if_pos rfl] at H; exact H
 clear H
 have H := H1
 clear H1
 replace H := Option.bind_eq_some_iff.mp H
 obtain ⟨t196, A160, H⟩ := H
 replace H : (if t196 = true then (if (l0_1.length : Int) = (l0_0.length : Int) then (some ((l0_2.length : Int) == (l0_0.length : Int))) else (some false)) else (some false)) = some r := H
 have A16 := Aside0.mk A160
 clear A160
 by_cases c17 : t196 = true
 {
 subst c17
 have H1 : (if (l0_1.length : Int) = (l0_0.length : Int) then (some ((l0_2.length : Int) == (l0_0.length : Int))) else (some false)) = some r := by rw [if_pos rfl] at H; exact H
 clear H
 have H := H1
 clear H1
 by_cases c18 : (l0_1.length : Int) = (l0_0.length : Int)
 {
 rw [if_pos c18] at H
 have c18b0 : ((l0_1.length : Int) == (l0_0.length : Int)) = true := beq_iff_eq.mpr c18
 have c18b1 : ((l0_1.length : Int) != (l0_0.length : Int)) = false := bne_eq_false_iff_eq.mpr c18
 have c18b2 : (l0_1.length == l0_0.length) = true := by first | simpa using c18 | (simp at c18 ⊢; omega)
 clear c18
 obtain rfl := Option.some.inj H
 have hcz19_0 := cz30 BK193.out
 have hcz19_1 := cz31 BK193.out
 have hcz19_2 := cz32 BK193.out
 have hfz19_0 := blk_frozen BK193.out 0
 have hfz19_1 := blk_frozen BK193.out 1
 have hfz19_2 := blk_frozen BK193.out 2
 go_wp2_with (first | (go_at_call 42; (with_reducible refine (impl_PermOk.calls _ _ l0_1 true _ ?side1 ?side2 A14.out).mono ?_); (case side1 => exact cX (Kd.C_below HR0_1.out HB.out)); (case side2 => exact HC0_1.out); rintro e w20 ⟨rfl, hb⟩; have n0_ := Aside0.mk (bbX BK193.out hb); have n1_ := Aside0.mk (below_step (bX1 HB.out GE193.out) hb); clear BK193 HB; have BK193 := n0_; have HB := n1_; clear n0_ n1_; (try clear hb); (try clear hb2); (try clear hk); (try clear hi); have hcz21_0 := cz30 BK193.out; have hcz21_1 := cz31 BK193.out; have hcz21_2 := cz32 BK193.out; have hfz21_0 := blk_frozen BK193.out 0; have hfz21_1 := blk_frozen BK193.out 1; have hfz21_2 := blk_frozen BK193.out 2) | (go_at_call 42; (with_reducible refine (impl_PermOk.calls _ _ l0_2 true _ ?side1 ?side2 A16.out).mono ?_); (case side1 => exact cX (Kd.C_below HR0_2.out HB.out)); (case side2 => exact HC0_2.out); rintro e w22 ⟨rfl, hb⟩; have n0_ := Aside0.mk (bbX BK193.out hb); have n1_ := Aside0.mk (below_step (bX1 HB.out GE193.out) hb); clear BK193 HB; have BK193 := n0_; have HB := n1_; clear n0_ n1_; (try clear hb); (try clear hb2); (try clear hk); (try clear hi); have hcz23_0 := cz30 BK193.out; have hcz23_1 := cz31 BK193.out; have hcz23_2 := cz32 BK193.out; have hfz23_0 := blk_frozen BK193.out 0; have hfz23_1 := blk_frozen BK193.out 1; have hfz23_2 := blk_frozen BK193.out 2))
 go_ret
 exact ⟨eX, bX1 HB.out GE193.out⟩
 }
 {
 rw [if_neg c18] at H
 have c18b0 : ((l0_1.length : Int) == (l0_0.length : Int)) = false := beq_eq_false_iff_ne.mpr c18
 have c18b1 : ((l0_1.length : Int) != (l0_0.length : Int)) = true := bne_iff_ne.mpr c18
 have c18b2 : (l0_1.length == l0_0.length) = false := by first | simpa using c18 | (simp at c18 ⊢; omega)
 obtain rfl := Option.some.inj H
 have hcz24_0 := cz30 BK193.out
 have hcz24_1 := cz31 BK193.out
 have hcz24_2 := cz32 BK193.out
 have hfz24_0 := blk_frozen BK193.out 0
 have hfz24_1 := blk_frozen BK193.out 1
 have hfz24_2 := blk_frozen BK193.out 2
 go_wp2_with (first | (go_at_call 42; (with_reducible refine (impl_PermOk.calls _ _ l0_1 true _ ?side1 ?side2 A14.out).mono ?_); (case side1 => exact cX (Kd.C_below HR0_1.out HB.out)); (case side2 => exact HC0_1.out); rintro e w25 ⟨rfl, hb⟩; have n0_ := Aside0.mk (bbX BK193.out hb); have n1_ := Aside0.mk (below_step (bX1 HB.out GE193.out) hb); clear BK193 HB; have BK193 := n0_; have HB := n1_; clear n0_ n1_; (try clear hb); (try clear hb2); (try clear hk); (try clear hi); have hcz26_0 := cz30 BK193.out; have hcz26_1 := cz31 BK193.out; have hcz26_2 := cz32 BK193.out; have hfz26_0 := blk_frozen BK193.out 0; have hfz26_1 := blk_frozen BK193.out 1; have hfz26_2 := blk_frozen BK193.out 2) | (go_at_call 42; (with_reducible refine (impl_PermOk.calls _ _ l0_2 true _ ?side1 ?side2 A16.out).mono ?_); (case side1 => exact cX (Kd.C_below HR0_2.out HB.out)); (case side2 => exact HC0_2.out); rintro e w27 ⟨rfl, hb⟩; have n0_ := Aside0.mk (bbX BK193.out hb); have n1_ := Aside0.mk (below_step (bX1 HB.out GE193.out) hb); clear BK193 HB; have BK193 := n0_; have HB := n1_; clear n0_ n1_; (try clear hb); (try clear hb2); (try clear hk); (try clear hi); have hcz28_0 := cz30 BK193.out; have hcz28_1 := cz31 BK193.out; have hcz28_2 := cz32 BK193.out; have hfz28_0 := blk_frozen BK193.out 0; have hfz28_1 := blk_frozen BK193.out 1; have hfz28_2 := blk_frozen BK193.out 2))
 go_ret
 exact ⟨eX, bX1 HB.out GE193.out⟩
 }
 }
 {
 replace c17 := Bool.eq_false_iff.mpr c17
 subst c17
 have H1 : (some false) = some r := by rw [if_neg (show ¬ (false = true) by decide)] at H; exact H
 clear H
 have H := H1
 clear H1
 obtain rfl := Option.some.inj H
 have hcz29_0 := cz30 BK193.out
 have hcz29_1 := cz31 BK193.out
 have hcz29_2 := cz32 BK193.out
 have hfz29_0 := blk_frozen BK193.out 0
 have hfz29_1 := blk_frozen BK193.out 1
 have hfz29_2 := blk_frozen BK193.out 2
 go_wp2_with (first | (go_at_call 42; (with_reducible refine (impl_PermOk.calls _ _ l0_1 true _ ?side1 ?side2 A14.out).mono ?_); (case side1 => exact cX (Kd.C_below HR0_1.out HB.out)); (case side2 => exact HC0_1.out); rintro e w30 ⟨rfl, hb⟩; have n0_ := Aside0.mk (bbX BK193.out hb); have n1_ := Aside0.mk (below_step (bX1 HB.out GE193.out) hb); clear BK193 HB; have BK193 := n0_; have HB := n1_; clear n0_ n1_; (try clear hb); (try clear hb2); (try clear hk); (try clear hi); have hcz31_0 := cz30 BK193.out; have hcz31_1 := cz31 BK193.out; have hcz31_2 := cz32 BK193.out; have hfz31_0 := blk_frozen BK193.out 0; have hfz31_1 := blk_frozen BK193.out 1; have hfz31_2 := blk_frozen BK193.out 2) | (go_at_call 42; (with_reducible refine (impl_PermOk.calls _ _ l0_2 false _ ?side1 ?side2 A16.out).mono ?_); (case side1 => exact cX (Kd.C_below HR0_2.out HB.out)); (case side2 => exact HC0_2.out); rintro e w32 ⟨rfl, hb⟩; have n0_ := Aside0.mk (bbX BK193.out hb); have n1_ := Aside0.mk (below_step (bX1 HB.out GE193.out) hb); clear BK193 HB; have BK193 := n0_; have HB := n1_; clear n0_ n1_; (try clear hb); (try clear hb2); (try clear hk); (try clear hi)))
 go_ret
 exact ⟨eX, bX1 HB.out GE193.out⟩
 }
 }
 {
 replace c15 := Bool.eq_false_iff.mpr c15
 subst c15
 have H1 : (some false) = some r := by rw [if_neg (show ¬ (false = true) by decide)] at H; exact H
 clear H
 have H := H1
 clear H1
 obtain rfl := Option.some.inj H
 have hcz33_0 := cz30 BK193.out
 have hcz33_1 := cz31 BK193.out
 have hcz33_2 := cz32 BK193.out
 have hfz33_0 := blk_frozen BK193.out 0
 have hfz33_1 := blk_frozen BK193.out 1
 have hfz33_2 := blk_frozen BK193.out 2
 go_wp2_with (first | (go_at_call 42; (with_reducible refine (impl_PermOk.calls _ _ l0_1 false _ ?side1 ?side2 A14.out).mono ?_); (case side1 => exact cX (Kd.C_below HR0_1.out HB.out)); (case side2 => exact HC0_1.out); rintro e w34 ⟨rfl, hb⟩; have n0_ := Aside0.mk (bbX BK193.out hb); have n1_ := Aside0.mk (below_step (bX1 HB.out GE193.out) hb); clear BK193 HB; have BK193 := n0_; have HB := n1_; clear n0_ n1_; (try clear hb); (try clear hb2); (try clear hk); (try clear hi)))
 go_ret
 exact ⟨eX, bX1 HB.out GE193.out⟩
 }
 }
 {
 rw [if_neg c13] at H
 have c13b0 : decide (x4_2 ≤ 60) = false := decide_eq_false c13
 clear c13
 obtain rfl := Option.some.inj H
 go_wp2
 go_ret
 exact ⟨eX, bX1 HB.out GE193.out⟩
 }
 }
 }

/-! ### impl_copyInts: function 49 -/
def impl_copyInts.f (l0 : List Int) : Option (List Int) := (some (([] : List Int) : List Int)).bind fun y197 => (if y197.length + l0.length < 17592186044416 then (some (y197 ++ l0)) else (none))
set_option maxHeartbeats 8000000 in
set_option maxRecDepth 100000 in
theorem impl_copyInts.calls (A0 : Option Addr) (c0 : Nat) (l0 : List Int) (r : List Int) (w : World) (hr0 : Kd.C (Kd.int .i64) w A0 l0.length l0) (hc0 : l0.length ≤ c0) (h : impl_copyInts.f l0 = some r) :
  Calls Try.prog 49 #[.slice A0 l0.length c0] w fun e w' => ∃ v0_ : Value, e = .returned (v0_) ∧ Kd.R (Kd.int .i64) 3 w' w.heap.size (fun _ => True) v0_ r ∧ Below w.heap.size w w' := by
 have HR0 := Aside0.mk hr0
 have HC0 := Aside0.mk hc0
 clear hr0 hc0
 have HB := Aside0.mk (Below.refl w.heap.size w)
 have H : ((some (([] : List Int) : List Int)).bind fun y197 => (if y197.length + l0.length < 17592186044416 then (some (y197 ++ l0)) else (none))) = some r := h
 clear h
 obtain ⟨y197, hy197⟩ : ∃ y_ : List Int, y_ = (([] : List Int)) := ⟨_, rfl⟩
 replace H : (if y197.length + l0.length < 17592186044416 then (some (y197 ++ l0)) else (none)) = some r := by first | (rw [hy197]; with_reducible exact H) | (have H2_ := (Option.bind_some _ _).symm.trans H; rw [hy197]; with_reducible exact H2_) | (have H2_ := (Option.bind_some _ _).symm.trans H; with_reducible exact H2_) | with_reducible exact H | (rw [hy197]; exact H) | exact H
 have Ny197 := Aside0.mk hy197
 clear hy197
 by_cases c2 : y197.length + l0.length < 17592186044416
 {
 rw [if_pos c2] at H
 have LMc2 := Aside0.mk c2
 clear c2
 obtain ⟨y200, hy200⟩ : ∃ y_ : List Int, y_ = (y197 ++ l0) := ⟨_, rfl⟩
 replace H : (some y200) = some r := by first | (rw [hy200]; with_reducible exact H) | (have H2_ := (Option.bind_some _ _).symm.trans H; rw [hy200]; with_reducible exact H2_) | (have H2_ := (Option.bind_some _ _).symm.trans H; with_reducible exact H2_) | with_reducible exact H | (rw [hy200]; exact H) | exact H
 have Ny200 := Aside0.mk hy200
 clear hy200
 obtain rfl := Option.some.inj H
 go_enter Try.func49, Try.ntmps49
 go_wp2_with (first | ((with_reducible refine gate_dst (N := 3) rfl ?_); refine Kd.R_lit (Kd.int .i64) _ 3 ?hg (N := 3) ?hd (xs := ([] : List Int)) (inner := []) (ok := fun _ => True) (okp := fun _ => True) ?hr ?hp (fun _ hk => hk) trivial (Below.refl _ _) (Nat.le_refl _) (by simp) ?_; (case hd => rfl); (case hg => rfl); (case hr => first | (go_simp; done) | (go_simp; rfl)); (case hp => exact (Reps.none _ _)); intro v198 w3 ho4 hb hg_ hnew_; clear hg_ hnew_; (first | rw [← Ny197.out] at ho4 | (simp only [Int.reduceToNat] at ho4; rw [← Ny197.out] at ho4)); have n0_ := Aside0.mk (Kd.R_lower ho4 (below_size (bX HB.out))); have n1_ := Aside0.mk (below_step (bX HB.out) hb); clear HB; have HO199 := n0_; have HB := n1_; clear n0_ n1_ hb ho4) | ((with_reducible refine gate_builtin (b := .append) (xs := #[.tmp 3, .tmp 4]) rfl ?_); at_builtin; refine Kd.R_append_rows (Kd.int .i64) (w0 := w) w.heap.size rfl (.tmp 3) (.tmp 4) 22 3 (.int .i64 0) 8 rfl Try.underlying22 info3 rfl (by decide) (by omega) v198 y197 l0 _ _ _ (fun _ => True) (fun _ => False) rfl rfl ?aO ?aR (fun _ _ h => h) (fun _ h => h.elim) ?aF ?aB ?aS ?aL ?_; (case aR => exact cX (Kd.C_below HR0.out HB.out)); (case aB => exact (bX HB.out)); (case aF => exact (fun _ _ => trivial)); (case aO => exact (rX HO199.out)); (case aS => exact (below_size (bX HB.out))); (case aL => have := LMc2.out; omega); intro v201 w5 ho hb hg hat; rw [← Ny200.out] at ho; have n0_ := Aside0.mk (hb); have n1_ := Aside0.mk (ho); clear HB HO199; have HB := n0_; have HO202 := n1_; clear n0_ n1_ ho hb hg hat))
 go_ret
 exact ⟨_, eX, by (with_reducible repeat (first|apply rA|apply rN|apply rD)); exact HO202.out, bX HB.out⟩
 }
 {
 rw [if_neg c2] at H
 exact absurd H (by simp)
 }

/-! ### impl_copyExchange: function 32 -/
def impl_copyExchange.f (l0_0 : List Int) (l0_1 : List Int) (l0_2 : List Int) : Option (List Int × List Int × List Int) := (impl_copyInts.f l0_0).bind fun t205 => ((impl_copyInts.f l0_1).bind fun t208 => ((impl_copyInts.f l0_2).bind fun t211 => (some (t205, t208, t211))))
def impl_copyExchange.T1 : Bool × List (List Nat × List Nat) := (true, [([], []), ([0], [0]), ([1], [1]), ([], []), ([3], [3]), ([4, 2], [4]), ([], []), ([6], [6]), ([7, 5], [7]), ([2, 5, 8], [2, 5, 8]), ([9, 8, 0, 1, 2, 3, 4, 5, 6, 7, 8, 9], [9])])
def impl_copyExchange.B1 : List Nat := [0, 1, 3, 0, 8, 31, 0, 64, 255, 511, 1023]
theorem impl_copyExchange.tab1 : rtab .any (opsOf Try.f32 1) = impl_copyExchange.T1 := by kernel_rfl
theorem impl_copyExchange.bits1 : waitsOk impl_copyExchange.T1.2 impl_copyExchange.B1 = true := by kernel_rfl
set_option maxHeartbeats 8000000 in
set_option maxRecDepth 100000 in
theorem impl_copyExchange.calls (A0_0 : Option Addr) (c0_0 : Nat) (l0_0 : List Int) (A0_1 : Option Addr) (c0_1 : Nat) (l0_1 : List Int) (A0_2 : Option Addr) (c0_2 : Nat) (l0_2 : List Int) (r1 : List Int) (r2 : List Int) (r3 : List Int) (w : World) (hr0_0 : Kd.C (Kd.int .i64) w A0_0 l0_0.length l0_0) (hc0_0 : l0_0.length ≤ c0_0) (hr0_1 : Kd.C (Kd.int .i64) w A0_1 l0_1.length l0_1) (hc0_1 : l0_1.length ≤ c0_1) (hr0_2 : Kd.C (Kd.int .i64) w A0_2 l0_2.length l0_2) (hc0_2 : l0_2.length ≤ c0_2) (h : impl_copyExchange.f l0_0 l0_1 l0_2 = some (r1, r2, r3)) :
  Calls Try.prog 32 #[.agg #[.slice A0_0 l0_0.length c0_0, .slice A0_1 l0_1.length c0_1, .slice A0_2 l0_2.length c0_2]] w fun e w' => ∃ v0_ v1_ v2_ : Value, e = .returned (.agg #[v0_, v1_, v2_]) ∧ Kd.R (Kd.int .i64) 3 w' w.heap.size (fun k_ => some k_ ≠ (v1_ : Value).ownBlock ∧ some k_ ≠ (v2_ : Value).ownBlock) v0_ r1 ∧ Kd.R (Kd.int .i64) 3 w' w.heap.size (fun k_ => some k_ ≠ (v0_ : Value).ownBlock ∧ some k_ ≠ (v2_ : Value).ownBlock) v1_ r2 ∧ Kd.R (Kd.int .i64) 3 w' w.heap.size (fun k_ => some k_ ≠ (v0_ : Value).ownBlock ∧ some k_ ≠ (v1_ : Value).ownBlock) v2_ r3 ∧ Below w.heap.size w w' := by
 have hu26 := Try.underlying26
 have HR0_0 := Aside0.mk hr0_0
 have HC0_0 := Aside0.mk hc0_0
 clear hr0_0 hc0_0
 have HR0_1 := Aside0.mk hr0_1
 have HC0_1 := Aside0.mk hc0_1
 clear hr0_1 hc0_1
 have HR0_2 := Aside0.mk hr0_2
 have HC0_2 := Aside0.mk hc0_2
 clear hr0_2 hc0_2
 have HB := Aside0.mk (Below.refl w.heap.size w)
 have H : ((impl_copyInts.f l0_0).bind fun t205 => ((impl_copyInts.f l0_1).bind fun t208 => ((impl_copyInts.f l0_2).bind fun t211 => (some (t205, t208, t211))))) = some (r1, r2, r3) := h
 clear h
 replace H := Option.bind_eq_some_iff.mp H
 obtain ⟨t205, A20, H⟩ := H
 replace H : ((impl_copyInts.f l0_1).bind fun t208 => ((impl_copyInts.f l0_2).bind fun t211 => (some (t205, t208, t211)))) = some (r1, r2, r3) := H
 have A2 := Aside0.mk A20
 clear A20
 replace H := Option.bind_eq_some_iff.mp H
 obtain ⟨t208, A30, H⟩ := H
 replace H : ((impl_copyInts.f l0_2).bind fun t211 => (some (t205, t208, t211))) = some (r1, r2, r3) := H
 have A3 := Aside0.mk A30
 clear A30
 replace H := Option.bind_eq_some_iff.mp H
 obtain ⟨t211, A40, H⟩ := H
 replace H : (some (t205, t208, t211)) = some (r1, r2, r3) := H
 have A4 := Aside0.mk A40
 clear A40
 simp only [Option.some.injEq, Prod.mk.injEq] at H
 obtain ⟨rfl, rfl, rfl⟩ := H
 go_enter Try.func32, Try.ntmps32
 try go_wp2_with (first | ((with_reducible refine gate_dst (N := 1) rfl ?_); refine box_event ?hg (N := 1) ?hd (cs := #[.slice A0_0 l0_0.length c0_0, .slice A0_1 l0_1.length c0_1, .slice A0_2 l0_2.length c0_2]) (t := 26) ?hr ?_; (case hd => rfl); (case hg => rfl); (case hr => first | (go_simp; done) | (go_simp; rfl)); intro gb203 hg w5 hbox hb; have n0_ := Aside0.mk (below_step (bX HB.out) hb); have n1_ := Aside0.mk (hbox); have n2_ := Aside0.mk ((szX (below_size (bX HB.out)) hg : w.heap.size ≤ gb203)); have n3_ := Aside0.mk ((szX (below_size (bX HB.out)) hg : w.heap.size ≤ gb203)); clear HB; have HB := n0_; have BK203 := n1_; have GW203 := n2_; have GE203 := n3_; clear n0_ n1_ n2_ n3_ hb hbox hg) | ((with_reducible refine gate_dst (N := 2) rfl ?_); refine box_event ?hg (N := 2) ?hd (cs := #[.slice none 0 0, .slice none 0 0, .slice none 0 0]) (t := 26) ?hr ?_; (case hd => rfl); (case hg => rfl); (case hr => first | (go_simp; done) | (go_simp; rfl)); intro gb204 hg w6 hbox hb; have n0_ := Aside0.mk (bbX BK203.out hb); have n1_ := Aside0.mk (below_step (bX1 HB.out GE203.out) hb); have n2_ := Aside0.mk (hbox); have n3_ := Aside0.mk ((szX (below_size (bX1 HB.out GE203.out)) hg : w.heap.size ≤ gb204)); have n4_ := Aside0.mk ((szX (below_size (bX1 HB.out GE203.out)) hg : w.heap.size ≤ gb204)); have n5_ := Aside0.mk (neX BK203.out hg); have n6_ := Aside0.mk (nfX BK203.out hg); clear BK203 HB; have BK203 := n0_; have HB := n1_; have BK204 := n2_; have GW204 := n3_; have GE204 := n4_; have NB203_204 := n5_; have NB204_203 := n6_; clear n0_ n1_ n2_ n3_ n4_ n5_ n6_ hb hbox hg))
 have n0_ := Aside0.mk (blk_drew BK203.out)
 have n1_ := Aside0.mk (blk_drew BK204.out)
 have n2_ := Aside0.mk (below_drew1 HB.out)
 clear BK203 BK204 HB
 have BK203 := n0_
 have BK204 := n1_
 have HB := n2_
 clear n0_ n1_ n2_
 refine start_ (n := 11) (S := fun w' => w'.cell? ⟨gb203, 0, none⟩ = some (.slice A0_0 l0_0.length c0_0) ∧ w'.cell? ⟨gb203, 1, none⟩ = some (.slice A0_1 l0_1.length c0_1) ∧ w'.cell? ⟨gb203, 2, none⟩ = some (.slice A0_2 l0_2.length c0_2)) (ds := []) #[ff,ff,ff,ff,ff,ff,ff,ff,ff,ff,ff] (by kernel_rfl) rfl rfl ⟨cz30 BK203.out, cz31 BK203.out, cz32 BK203.out⟩ (fun hHeld => ?_); refine with_tabW impl_copyExchange.tab1 impl_copyExchange.bits1 (fun HT_ HW_ => ?_)
 generalize w6.drew = w7 at BK203 BK204 HB hHeld ⊢
 refine pX 0 3 (fl 11 1) rfl rfl HT_.out ?_
 refine pX 3 6 (fl 11 9) rfl rfl HT_.out ?_
 refine pX 6 9 (fl 11 73) rfl rfl HT_.out ?_
 refine tX3 1 4 (fl 11 75) rfl rfl HT_.out HW_.out hHeld ?_
 refine tX3 4 7 (fl 11 91) rfl rfl HT_.out HW_.out hHeld ?_
 refine tX3 7 10 (fl 11 219) rfl rfl HT_.out HW_.out hHeld ?_
 refine one_ (i := 2) (N := some 5) #[tt,tt,tt,tt,tt,ff,tt,tt,ff,ff,ff] rfl rfl (one_of HT_.out (by kernel_rfl)) (by decide) (fun K hK => ?_)
 refine goes_ Try.func49 (by kernel_rfl) rfl #[.slice A0_0 l0_0.length c0_0] (by rfl) rfl rfl aX ?_
 with_reducible refine (impl_copyInts.calls _ _ l0_0 t205 _ ?side1 ?side2 A2.out).mono ?_
 (case side1 => exact cX (Kd.C_below HR0_0.out HB.out))
 (case side2 => exact HC0_0.out)
 rintro e w8 ⟨v206, rfl, ho0, hb⟩
 refine ⟨_, rfl, ?_⟩
 have n0_ := Aside0.mk (Kd.R_lower ho0 (below_size (bX2 HB.out GE203.out GE204.out)))
 have n1_ := Aside0.mk (bbX BK203.out hb)
 have n2_ := Aside0.mk (bbX BK204.out hb)
 have n3_ := Aside0.mk (below_step (bX2 HB.out GE203.out GE204.out) hb)
 clear BK203 BK204 HB
 have HO207 := n0_
 have BK203 := n1_
 have BK204 := n2_
 have HB := n3_
 clear n0_ n1_ n2_ n3_
 (try clear hb)
 (try clear hb2)
 (try clear hk)
 (try clear hi)
 (try clear ho0)
 refine hK.out _ _ ⟨cz30 BK203.out, cz31 BK203.out, cz32 BK203.out⟩ (fun hHeld => ?_)
 clear hK K
 refine norm_ (a' := ?_) ?_ ?_
 rotate_left
 {
 show Act.put _ (some 5) _ = _
 simp only [Act.put, zA, zB, zC, i64_w, i32_w]
 rfl
 }
 refine one_ (i := 5) (N := some 8) #[tt,tt,tt,tt,tt,tt,tt,tt,ff,ff,ff] rfl rfl (one_of HT_.out (by kernel_rfl)) (by decide) (fun K hK => ?_)
 refine goes_ Try.func49 (by kernel_rfl) rfl #[.slice A0_1 l0_1.length c0_1] (by rfl) rfl rfl aX ?_
 with_reducible refine (impl_copyInts.calls _ _ l0_1 t208 _ ?side1 ?side2 A3.out).mono ?_
 (case side1 => exact cX (Kd.C_below HR0_1.out HB.out))
 (case side2 => exact HC0_1.out)
 rintro e w9 ⟨v209, rfl, ho0, hb⟩
 refine ⟨_, rfl, ?_⟩
 have n0_ := Aside0.mk (Kd.R_elder' (rX HO207.out) (Kd.R_base ho0) hb)
 have n1_ := Aside0.mk (Kd.R_lower (Kd.R_new' ho0 (Kd.R_lt (rX HO207.out))) (below_size (bX2 HB.out GE203.out GE204.out)))
 have n2_ := Aside0.mk (bbX BK203.out hb)
 have n3_ := Aside0.mk (bbX BK204.out hb)
 have n4_ := Aside0.mk (below_step (bX2 HB.out GE203.out GE204.out) hb)
 clear HO207 BK203 BK204 HB
 have HO207 := n0_
 have HO210 := n1_
 have BK203 := n2_
 have BK204 := n3_
 have HB := n4_
 clear n0_ n1_ n2_ n3_ n4_
 (try clear hb)
 (try clear hb2)
 (try clear hk)
 (try clear hi)
 (try clear ho0)
 refine hK.out _ _ ⟨cz30 BK203.out, cz31 BK203.out, cz32 BK203.out⟩ (fun hHeld => ?_)
 clear hK K
 refine norm_ (a' := ?_) ?_ ?_
 rotate_left
 {
 show Act.put _ (some 8) _ = _
 simp only [Act.put, zA, zB, zC, i64_w, i32_w]
 rfl
 }
 refine one_ (i := 8) (N := some 11) #[tt,tt,tt,tt,tt,tt,tt,tt,tt,ff,ff] rfl rfl (one_of HT_.out (by kernel_rfl)) (by decide) (fun K hK => ?_)
 refine goes_ Try.func49 (by kernel_rfl) rfl #[.slice A0_2 l0_2.length c0_2] (by rfl) rfl rfl aX ?_
 with_reducible refine (impl_copyInts.calls _ _ l0_2 t211 _ ?side1 ?side2 A4.out).mono ?_
 (case side1 => exact cX (Kd.C_below HR0_2.out HB.out))
 (case side2 => exact HC0_2.out)
 rintro e w10 ⟨v212, rfl, ho0, hb⟩
 refine ⟨_, rfl, ?_⟩
 have n0_ := Aside0.mk (Kd.R_elder' (rX HO207.out) (Kd.R_base ho0) hb)
 have n1_ := Aside0.mk (Kd.R_elder' (rX HO210.out) (Kd.R_base ho0) hb)
 have n2_ := Aside0.mk (Kd.R_lower (Kd.R_new' (Kd.R_new' ho0 (Kd.R_lt (rX HO207.out))) (Kd.R_lt (rX HO210.out))) (below_size (bX2 HB.out GE203.out GE204.out)))
 have n3_ := Aside0.mk (bbX BK203.out hb)
 have n4_ := Aside0.mk (bbX BK204.out hb)
 have n5_ := Aside0.mk (below_step (bX2 HB.out GE203.out GE204.out) hb)
 clear HO207 HO210 BK203 BK204 HB
 have HO207 := n0_
 have HO210 := n1_
 have HO213 := n2_
 have BK203 := n3_
 have BK204 := n4_
 have HB := n5_
 clear n0_ n1_ n2_ n3_ n4_ n5_
 (try clear hb)
 (try clear hb2)
 (try clear hk)
 (try clear hi)
 (try clear ho0)
 obtain ⟨Ao11, co11, eo11⟩ := Kd.R_slice HO213.out
 (first | subst eo11 | (injection eo11 with f1_ f2_ f3_; have f4_ := f1_.symm; have f5_ := f3_.symm; clear f1_ f2_ f3_; subst f4_; subst f5_))
 obtain ⟨Ao12, co12, eo12⟩ := Kd.R_slice HO210.out
 (first | subst eo12 | (injection eo12 with f1_ f2_ f3_; have f4_ := f1_.symm; have f5_ := f3_.symm; clear f1_ f2_ f3_; subst f4_; subst f5_))
 obtain ⟨Ao13, co13, eo13⟩ := Kd.R_slice HO207.out
 (first | subst eo13 | (injection eo13 with f1_ f2_ f3_; have f4_ := f1_.symm; have f5_ := f3_.symm; clear f1_ f2_ f3_; subst f4_; subst f5_))
 refine hK.out _ _ ⟨cz30 BK203.out, cz31 BK203.out, cz32 BK203.out⟩ (fun hHeld => ?_)
 clear hK K
 refine norm_ (a' := ?_) ?_ ?_
 rotate_left
 {
 show Act.put _ (some 11) _ = _
 simp only [Act.put, zA, zB, zC, i64_w, i32_w]
 rfl
 }
 refine pX 9 12 (fl 11 1023) rfl rfl HT_.out ?_
 refine one_ (i := 10) (N := none) #[tt,tt,tt,tt,tt,tt,tt,tt,tt,tt,tt] rfl rfl (one_of HT_.out (by kernel_rfl)) (by decide) (fun K hK => ?_)
 have hs14 : w10.cell? ⟨gb204, 0, none⟩ = some (.slice none 0 0) := cz30 BK204.out
 have hfs14 := blk_frozen BK204.out 0
 have hns14_0 := NB203_204.out
 have hms14_0 := NB204_203.out
 have hs15 : w10.cell? ⟨gb204, 1, none⟩ = some (.slice none 0 0) := cz31 BK204.out
 have hfs15 := blk_frozen BK204.out 1
 have hns15_0 := NB203_204.out
 have hms15_0 := NB204_203.out
 have hs16 : w10.cell? ⟨gb204, 2, none⟩ = some (.slice none 0 0) := cz32 BK204.out
 have hfs16 := blk_frozen BK204.out 2
 have hns16_0 := NB203_204.out
 have hms16_0 := NB204_203.out
 refine skip_ (w1 := ?_) (by rfl) rfl ?_ ?_
 rotate_left
 {
 go_simp
 rfl
 }
 refine hK.out _ _ ⟨((cell_far (p := ⟨gb204, _, none⟩) NB203_204.out _).trans (((cell_far (p := ⟨gb204, _, none⟩) NB203_204.out _).trans (((cell_far (p := ⟨gb204, _, none⟩) NB203_204.out _).trans (hHeld.1)))))), ((cell_far (p := ⟨gb204, _, none⟩) NB203_204.out _).trans (((cell_far (p := ⟨gb204, _, none⟩) NB203_204.out _).trans (((cell_far (p := ⟨gb204, _, none⟩) NB203_204.out _).trans (hHeld.2.1)))))), ((cell_far (p := ⟨gb204, _, none⟩) NB203_204.out _).trans (((cell_far (p := ⟨gb204, _, none⟩) NB203_204.out _).trans (((cell_far (p := ⟨gb204, _, none⟩) NB203_204.out _).trans (hHeld.2.2))))))⟩ (fun hHeld => ?_)
 clear hK K
 refine done_ (done_of HT_.out (by kernel_rfl)) ?_
 try go_wp2
 refine bodyPost_ret (results_cell_row rfl _ _ gb204 26 #[.slice Ao13 t205.length co13, .slice Ao12 t208.length co12, .slice Ao11 t211.length co11] (0, 0) _ rfl (by (with_reducible repeat (first|refine kN ?_ _|refine kD ?_|refine kA ?_ _)); refine blk_put (cs := #[.slice Ao13 t205.length co13, .slice Ao12 t208.length co12, .slice none 0 0]) ?_ 2 _ rfl; (with_reducible repeat (first|refine kN ?_ _|refine kD ?_|refine kA ?_ _)); refine blk_put (cs := #[.slice Ao13 t205.length co13, .slice none 0 0, .slice none 0 0]) ?_ 1 _ rfl; (with_reducible repeat (first|refine kN ?_ _|refine kD ?_|refine kA ?_ _)); refine blk_put (cs := #[.slice none 0 0, .slice none 0 0, .slice none 0 0]) ?_ 0 _ rfl; (with_reducible repeat (first|refine kN ?_ _|refine kD ?_|refine kA ?_ _)); exact BK204.out) Try.underlying26 rfl (by kernel_rfl)) rfl ?_
 exact ⟨_, _, _, eX, by (with_reducible repeat (first|apply rA|apply rN|apply rD)); exact Kd.R_mono (Kd.R_far (p := ⟨gb204, 2, none⟩) (Kd.R_far (p := ⟨gb204, 1, none⟩) (Kd.R_far (p := ⟨gb204, 0, none⟩) (Kd.R_types HO207.out BK204.out (by decide)) (fun _ hk => hk.2) (.slice Ao13 t205.length co13)) (fun _ hk => hk.2) (.slice Ao12 t208.length co12)) (fun _ hk => hk.2) (.slice Ao11 t211.length co11)) (fun _ hk => ⟨hk.1.1.2, hk.1.2⟩), by (with_reducible repeat (first|apply rA|apply rN|apply rD)); exact Kd.R_mono (Kd.R_far (p := ⟨gb204, 2, none⟩) (Kd.R_far (p := ⟨gb204, 1, none⟩) (Kd.R_far (p := ⟨gb204, 0, none⟩) (Kd.R_types HO210.out BK204.out (by decide)) (fun _ hk => hk.2) (.slice Ao13 t205.length co13)) (fun _ hk => hk.2) (.slice Ao12 t208.length co12)) (fun _ hk => hk.2) (.slice Ao11 t211.length co11)) (fun _ hk => ⟨hk.1.1.2, hk.1.2⟩), by (with_reducible repeat (first|apply rA|apply rN|apply rD)); exact Kd.R_mono (Kd.R_far (p := ⟨gb204, 2, none⟩) (Kd.R_far (p := ⟨gb204, 1, none⟩) (Kd.R_far (p := ⟨gb204, 0, none⟩) (Kd.R_types HO213.out BK204.out (by decide)) (fun _ hk => hk.2) (.slice Ao13 t205.length co13)) (fun _ hk => hk.2) (.slice Ao12 t208.length co12)) (fun _ hk => hk.2) (.slice Ao11 t211.length co11)) (fun _ hk => ⟨hk.1.1.2, hk.1.2⟩), bX2 HB.out GE203.out GE204.out⟩

/-! ### slices_Insert_int_int: function 50 -/
def slices_Insert_int_int.f (l0 : List Int) (a1 : Int) (l2 : List Int) : Option (List Int) := if 0 ≤ a1 ∧ a1 ≤ l0.length ∧ 0 < l2.length ∧ l0.length + l2.length ≤ 1000 then some (l0.take a1.toNat ++ l2 ++ l0.drop a1.toNat) else none
/-- The cells of a row with others from a place on. -/
def putC (cur : Array Value) (o : Nat) : List Value → Array Value
  | [] => cur
  | v :: r => putC (cur.setIfInBounds o v) (o + 1) r
theorem putC_list : ∀ (vs : List Value) (cur : Array Value) (o : Nat), o + vs.length ≤ cur.size → (putC cur o vs).toList = cur.toList.take o ++ vs ++ cur.toList.drop (o + vs.length)
  | [], cur, o, h => by simp [putC]
  | v :: r, cur, o, h => by
    simp only [List.length_cons] at h
    rw [putC, putC_list r _ (o + 1) (by simp; omega), Array.toList_setIfInBounds]
    have hl : o < cur.toList.length := by simp; omega
    have e1 : (cur.toList.set o v).take (o + 1) = cur.toList.take o ++ [v] := by
      rw [List.take_add_one, List.take_set_of_le (by omega), List.getElem?_set_self hl]
      rfl
    have e2 : (cur.toList.set o v).drop (o + 1 + r.length) = cur.toList.drop (o + (v :: r).length) := by
      rw [List.drop_set_of_lt (by omega)]
      simp only [List.length_cons]
      congr 1
      omega
    rw [e1, e2]
    simp
theorem putC_size (cur : Array Value) (o : Nat) (vs : List Value) (h : o + vs.length ≤ cur.size) : (putC cur o vs).size = cur.size := by
 have := congrArg List.length (putC_list vs cur o h)
 simp at this
 omega
theorem setCells_blk {g : Nat} {e : TypeId} {fz : Nat × Nat} : ∀ (vs : List Value) (o : Nat) (w : World) (cur : Array Value), w.heap[g]? = some (.cells cur e fz) → (w.setCells g o vs).heap[g]? = some (.cells (putC cur o vs) e fz)
  | [], _, _, _, h => h
  | v :: r, o, w, cur, h => by
    rw [World.setCells, putC]
    exact setCells_blk r (o + 1) _ _ (Go.Joins.block_setCell h v)
theorem setCells_below {B g : Nat} {a : World} (hg : B ≤ g) : ∀ (vs : List Value) (o : Nat) (w : World), Below B a w → Below B a (w.setCells g o vs)
  | [], _, _, h => h
  | v :: r, o, w, h => by
    rw [World.setCells]
    exact setCells_below hg r (o + 1) _ (h.setCell hg v)
theorem setCells_kept {g : Nat} {a : World} {S : Nat → Prop} (hg : S g ∨ a.heap.size ≤ g) : ∀ (vs : List Value) (o : Nat) (w : World), Kept a w S → Kept a (w.setCells g o vs) S
  | [], _, _, h => h
  | v :: r, o, w, h => by
    rw [World.setCells]
    exact setCells_kept hg r (o + 1) _ (h.setCell hg v)
theorem heapNew (w : World) (o : Obj) : (w.alloc o).heap[w.heap.size]? = some o := by
 show (w.heap.push o)[w.heap.size]? = _
 simp
def ints (l : List Int) : List Value := encs (Value.int .i64) l
theorem ints_len (l : List Int) : (ints l).length = l.length := encs_length l
theorem ints_one (l : List Int) : ∀ v ∈ ints l, v.oneCell' = true := by
 intro v hv
 obtain ⟨x, _, rfl⟩ := List.mem_map.1 hv
 rfl
/-- A row at a block of the call's own, as a fact of that block. -/
theorem row_open {w : World} {base : Nat} {P : Nat → Prop} {u : Value} {l : List Int} (h : Kd.R (Kd.int .i64) 3 w base P u l) :
    (u = .slice none 0 0 ∧ l = []) ∨ ∃ g cap cur, u = .slice (some ⟨g, 0, none⟩) l.length cap ∧ P g ∧ base ≤ g ∧ w.heap[g]? = some (.cells cur 3 (0, 0)) ∧ l.length ≤ cap ∧ cap ≤ maxLen ∧ cur.size = cap ∧ cur.toList.take l.length = ints l := by
 have ho := Kd.own_of_R (enc := Value.int .i64) (h1 := fun _ => rfl) h
 rcases ho.2 with ⟨e, hn⟩ | ⟨g, cap, cur, e, hg, hh, h1, h2, h3, h4⟩
 {
 exact .inl ⟨e, List.eq_nil_of_length_eq_zero hn⟩
 }
 {
 refine .inr ⟨g, cap, cur, e, h.1 g (by rw [e]; rfl), hg, hh, h1, h2, by rw [h3, Nat.mul_one], ?_⟩
 rw [Nat.mul_one] at h4
 exact h4
 }
theorem row_close {w : World} {base g cap : Nat} {P : Nat → Prop} {l : List Int} {cur : Array Value} (hP : P g) (hg : base ≤ g) (hh : w.heap[g]? = some (.cells cur 3 (0, 0))) (h1 : l.length ≤ cap) (h2 : cap ≤ maxLen) (h3 : cur.size = cap) (h4 : cur.toList.take l.length = ints l) :
    Kd.R (Kd.int .i64) 3 w base P (.slice (some ⟨g, 0, none⟩) l.length cap) l := by
 refine Kd.R_of_own (enc := Value.int .i64) (h1 := fun _ => rfl) ⟨by rw [encs_length, Nat.mul_one], .inr ⟨g, cap, cur, rfl, hg, hh, h1, h2, by rw [h3, Nat.mul_one], by rw [Nat.mul_one]; exact h4⟩⟩ ?_
 intro k hk
 have : g = k := by simpa [Value.ownBlock] using hk
 rw [← this]
 exact hP
theorem row_cell {w : World} {g : Nat} {cur : Array Value} {l : List Int} (hh : w.heap[g]? = some (.cells cur 3 (0, 0))) (hl : l.length ≤ cur.size) (h4 : cur.toList.take l.length = ints l) : ∀ j v, (ints l)[j]? = some v → w.cell? ⟨g, 0 + j, none⟩ = some v := by
 intro j v hj
 rw [Nat.zero_add, Go.Joins.cell_of_block hh]
 have hjl : j < l.length := by
  obtain ⟨h, _⟩ := List.getElem?_eq_some_iff.1 hj
  rw [ints_len] at h
  exact h
 rw [← h4, List.getElem?_take, if_pos hjl] at hj
 simpa using hj
theorem row_some {w : World} {g : Nat} {cur : Array Value} (hh : w.heap[g]? = some (.cells cur 3 (0, 0))) {j : Nat} (hj : j < cur.size) : (w.cell? ⟨g, j, none⟩).isSome = true := by
 rw [Go.Joins.cell_of_block hh]
 simp [hj]
theorem ints_ins (l m : List Int) (i : Nat) : (ints l).take i ++ ints m ++ (ints l).drop i = ints (l.take i ++ m ++ l.drop i) := by simp [ints, encs]
set_option maxHeartbeats 4000000 in
theorem slices_Insert_int_int.calls (P0_ : Nat → Prop) (u9000_ : Value) (l0 : List Int) (a1 : Int) (P2_ : Nat → Prop) (u9001_ : Value) (l2 : List Int) (r : List Int) (w0 w : World) (hB : Below w0.heap.size w0 w) (ho0 : Kd.R (Kd.int .i64) 3 w w0.heap.size P0_ u9000_ l0) (hp0_2 : ∀ k_, P0_ k_ → ¬ P2_ k_) (ho2 : Kd.R (Kd.int .i64) 3 w w0.heap.size P2_ u9001_ l2) (hp2_0 : ∀ k_, P2_ k_ → ¬ P0_ k_) (h : slices_Insert_int_int.f l0 a1 l2 = some r) :
    Calls Try.prog 50 #[u9000_, .int .i64 a1, u9001_] w fun e w' => ∃ v0_ : Value, e = .returned (v0_) ∧ Kd.R (Kd.int .i64) 3 w' w0.heap.size (fun k_ => ((P0_ k_ ∨ P2_ k_) ∨ w.heap.size ≤ k_)) v0_ r ∧ Below w0.heap.size w0 w' ∧ Kept w w' (fun k_ => P0_ k_ ∨ P2_ k_) := by
 unfold slices_Insert_int_int.f at h
 by_cases hc : 0 ≤ a1 ∧ a1 ≤ l0.length ∧ 0 < l2.length ∧ l0.length + l2.length ≤ 1000
 {
 rw [if_pos hc] at h
 obtain rfl := Option.some.inj h
 obtain ⟨i, rfl⟩ := Int.eq_ofNat_of_zero_le hc.1
 have hi : i ≤ l0.length := by omega
 have hm := hc.2.2.1
 have hbig := hc.2.2.2
 have hsz := hB.size
 simp only [Int.toNat_natCast]
 have hml : l0.length + l2.length ≤ maxLen := by simp only [maxLen]; omega
 rcases row_open ho2 with ⟨_, e⟩ | ⟨vb, vc, vcur, rfl, hPv, hgv, hhv, hv1, hv2, hv3, hv4⟩
 {
 rw [e] at hm; exact absurd hm (by simp)
 }
 have hvs := row_cell hhv (by omega) hv4
 have hvw : vb < w.heap.size := blk_lt hhv
 have hrl : (l0.take i ++ l2 ++ l0.drop i).length = l0.length + l2.length := by simp; omega
 -- a new row
 have fresh : ∀ (W : World) (c : Nat) (cur : Array Value), Below w0.heap.size w0 W → Kept w W (fun k_ => P0_ k_ ∨ P2_ k_) → W.heap[w.heap.size]? = some (.cells cur 3 (0, 0)) → l0.length + l2.length ≤ c → c ≤ maxLen → cur.size = c → cur.toList.take (l0.length + l2.length) = ints (l0.take i ++ l2 ++ l0.drop i) →
  ∃ v0_ : Value, Ending.returned (.slice (some ⟨w.heap.size, 0, none⟩) (l0.length + l2.length) c) = .returned (v0_) ∧ Kd.R (Kd.int .i64) 3 W w0.heap.size (fun k_ => ((P0_ k_ ∨ P2_ k_) ∨ w.heap.size ≤ k_)) v0_ (l0.take i ++ l2 ++ l0.drop i) ∧ Below w0.heap.size w0 W ∧ Kept w W (fun k_ => P0_ k_ ∨ P2_ k_) := by
  intro W c cur hb hk hh h1 h2 h3 h4
  refine ⟨_, rfl, ?_, hb, hk⟩
  have := row_close (w := W) (base := w0.heap.size) (P := fun k_ => ((P0_ k_ ∨ P2_ k_) ∨ w.heap.size ≤ k_)) (l := l0.take i ++ l2 ++ l0.drop i) (.inr (Nat.le_refl _)) hsz hh (by rw [hrl]; exact h1) h2 h3 (by rw [hrl]; exact h4)
  rw [hrl] at this
  exact this
 have kept0 : Kept w w (fun k_ => P0_ k_ ∨ P2_ k_) := Kept.refl _ _
 have zc : ∀ q : Nat, (Builtin.zeroCells (Value.int .i64 0).cells q).size = q := fun q => by simp [Builtin.zeroCells, Value.cells]
 by_cases hin : i = l0.length
 {
 subst hin
 have endg : ∀ (base : Option Addr) (c : Nat), l0.length ≤ c → c < l0.length + l2.length → (base = none → l0.length = 0) → (∀ a, base = some a → ∀ j v, (ints l0)[j]? = some v → w.cell? (a.add j) = some v) →
  Calls Try.prog 50 #[.slice base l0.length c, .int .i64 (Int.ofNat l0.length), .slice (some ⟨vb, 0, none⟩) l2.length vc] w fun e w' => ∃ v0_ : Value, e = .returned (v0_) ∧ Kd.R (Kd.int .i64) 3 w' w0.heap.size (fun k_ => ((P0_ k_ ∨ P2_ k_) ∨ w.heap.size ≤ k_)) v0_ (l0.take l0.length ++ l2 ++ l0.drop l0.length) ∧ Below w0.heap.size w0 w' ∧ Kept w w' (fun k_ => P0_ k_ ∨ P2_ k_) := by
  intro base c hn1 hn2 hnil hcs
  refine (Try.slices_Insert_int_end_grow base l0.length c vb 0 l2.length vc (ints l0) (ints l2) w hm hn1 hn2 (by omega) (ints_len _) (ints_len _) hnil hcs hvs (ints_one _)).mono ?_
  rintro e w' ⟨rfl, rfl⟩
  have hge := grownCap_ge w (l0.length + l2.length) c 3
  have hle := grownCap_le_maxLen w (l0.length + l2.length) c 3 hml
  generalize grownCap w (l0.length + l2.length) c 3 = G at *
  refine fresh _ G _ (hB.drew.alloc hsz _) (kept0.drew.alloc _) (heapNew _ _) hge hle ?_ ?_
  {
  rw [Array.size_append, zc]
  simp [ints_len]
  omega
  }
  {
  rw [Array.toList_append, List.take_append_of_le_length (by simp [ints_len])]
  simp only [List.take_length, List.drop_length, List.append_nil]
  rw [List.take_of_length_le (by simp [ints_len])]
  simp [ints, encs]
  }
 rcases row_open ho0 with ⟨rfl, e⟩ | ⟨g, cap, cur, rfl, hPg, hgg, hhg, hg1, hg2, hg3, hg4⟩
 {
 have := endg none 0 (by rw [e]; simp) (by omega) (fun _ => by rw [e]; rfl) (fun a ha => by cases ha)
 rw [show l0.length = 0 by rw [e]; rfl] at this ⊢
 exact this
 }
 {
 by_cases hroom : l0.length + l2.length ≤ cap
 {
 refine (Try.slices_Insert_int_end_room g 0 l0.length cap vb 0 l2.length vc (ints l2) w hm hroom (by simp only [maxLen] at hg2; omega) (ints_len _) (fun j hj => row_some hhg (by omega)) (fun j _ => Go.Joins.unfrozen_of_block hhg _) hvs (ints_one _)).mono ?_
 rintro e w' ⟨rfl, rfl⟩
 have hput : 0 + l0.length + (ints l2).length ≤ cur.size := by rw [ints_len]; omega
 have hb := setCells_blk (ints l2) (0 + l0.length) w cur hhg
 refine ⟨_, rfl, ?_, setCells_below hgg _ _ _ hB, setCells_kept (.inl (.inl hPg)) _ _ _ kept0⟩
 have := row_close (base := w0.heap.size) (P := fun k_ => ((P0_ k_ ∨ P2_ k_) ∨ w.heap.size ≤ k_)) (l := l0.take l0.length ++ l2 ++ l0.drop l0.length) (.inl (.inl hPg)) hgg hb (by rw [hrl]; exact hroom) hg2 (by rw [putC_size _ _ _ hput]; exact hg3) (by
  rw [putC_list _ _ _ hput, hrl, Nat.zero_add, hg4, List.take_append_of_le_length (by simp [ints_len]), List.take_of_length_le (by simp [ints_len])]
  simp [ints, encs])
 rw [hrl] at this
 exact this
 }
 {
 exact endg _ cap hg1 (by omega) (fun h => by cases h) (fun a ha j v hj => by
 obtain rfl := Option.some.inj ha
 rw [Addr.add_lit]
 exact row_cell hhg (by omega) hg4 j v hj)
 }
 }
 }
 {
 rcases row_open ho0 with ⟨rfl, e⟩ | ⟨g, cap, cur, rfl, hPg, hgg, hhg, hg1, hg2, hg3, hg4⟩
 {
 rw [e] at hin hi
 simp at hi
 exact absurd hi hin
 }
 have hlt : i < l0.length := by omega
 have hcs := row_cell hhg (by omega) hg4
 have hcur : cur.toList.take i = (ints l0).take i := by
  rw [← hg4, List.take_take, Nat.min_eq_left hi]
 by_cases hroom : l0.length + l2.length ≤ cap
 {
 refine (Try.slices_Insert_int_shift g 0 l0.length cap i vb 0 l2.length vc (ints l0) (ints l2) w hlt hm hroom (by simp only [maxLen] at hg2; omega) (fun e => hp2_0 _ hPv (by rw [e]; exact hPg)) (ints_len _) (ints_len _) hcs (fun j hj => row_some hhg (by omega)) (fun j _ => Go.Joins.unfrozen_of_block hhg _) hvs (ints_one _) (ints_one _) 3 3 vcur.size cur.size (by simp [World.shape?, hhv]) (by simp [World.shape?, hhg]) (by omega) (Go.Joins.unfrozen_of_block hhv _) (Go.Joins.unfrozen_of_block hhv _)).mono ?_
 rintro e w' ⟨rfl, rfl⟩
 have hput1 : 0 + (i + l2.length) + ((ints l0).drop i).length ≤ cur.size := by rw [List.length_drop, ints_len]; omega
 have hb1 := setCells_blk ((ints l0).drop i) (0 + (i + l2.length)) w.drew cur hhg
 have hs1 := putC_size _ _ _ hput1
 have hl1 := putC_list _ _ _ hput1
 generalize putC cur (0 + (i + l2.length)) ((ints l0).drop i) = cur1 at *
 have hput2 : 0 + i + (ints l2).length ≤ cur1.size := by rw [ints_len]; omega
 have hb2 := setCells_blk (ints l2) (0 + i) _ cur1 hb1
 refine ⟨_, rfl, ?_, setCells_below hgg _ _ _ (setCells_below hgg _ _ _ hB.drew), setCells_kept (.inl (.inl hPg)) _ _ _ (setCells_kept (.inl (.inl hPg)) _ _ _ kept0.drew)⟩
 have := row_close (base := w0.heap.size) (P := fun k_ => ((P0_ k_ ∨ P2_ k_) ∨ w.heap.size ≤ k_)) (l := l0.take i ++ l2 ++ l0.drop i) (.inl (.inl hPg)) hgg hb2 (by rw [hrl]; exact hroom) hg2 (by rw [putC_size _ _ _ hput2, hs1]; exact hg3) (by
  rw [putC_list _ _ _ hput2, hrl, ← ints_ins, hl1]
  simp only [Nat.zero_add, ints_len]
  have q1 : ((cur.toList.take (i + l2.length) ++ (ints l0).drop i ++ cur.toList.drop (i + l2.length + ((ints l0).drop i).length)).take i) = (ints l0).take i := by
   rw [List.append_assoc, List.take_append_of_le_length (by simp; omega), List.take_take, Nat.min_eq_left (by omega), hcur]
  have q2 : ((cur.toList.take (i + l2.length) ++ (ints l0).drop i ++ cur.toList.drop (i + l2.length + ((ints l0).drop i).length)).drop (i + l2.length)) = (ints l0).drop i ++ cur.toList.drop (i + l2.length + ((ints l0).drop i).length) := by
   rw [List.append_assoc, List.drop_left' (by simp; omega)]
  rw [q1, q2, ← List.append_assoc]
  exact List.take_left' (by simp [ints_len]; omega))
 rw [hrl] at this
 exact this
 }
 {
 refine (Try.slices_Insert_int_grow g 0 l0.length cap i vb 0 l2.length vc (ints l0) (ints l2) w hlt hm hg1 (by omega) (by omega) (ints_len _) (ints_len _) hcs hvs (ints_one _) (ints_one _)).mono ?_
 rintro e w' ⟨rfl, rfl⟩
 have hge := grownCap_ge w (l0.length + l2.length) cap 3
 have hle := grownCap_le_maxLen w (l0.length + l2.length) cap 3 hml
 generalize grownCap w (l0.length + l2.length) cap 3 = G at *
 have hn0 : ∀ X, (w.alloc (.cells X 3)).heap[w.heap.size]? = some (.cells X 3 (0, 0)) := fun X => heapNew _ _
 have hRs : (((ints l0).take i).toArray ++ Builtin.zeroCells (Value.int .i64 0).cells (l0.length + l2.length - i) ++ Builtin.zeroCells (Value.int .i64 0).cells (G - (l0.length + l2.length))).size = G := by
  rw [Array.size_append, Array.size_append, zc, zc]
  simp [ints_len]
  omega
 have hRl : ((((ints l0).take i).toArray ++ Builtin.zeroCells (Value.int .i64 0).cells (l0.length + l2.length - i) ++ Builtin.zeroCells (Value.int .i64 0).cells (G - (l0.length + l2.length))).toList).take i = (ints l0).take i := by
  rw [Array.toList_append, Array.toList_append, List.append_assoc]
  exact List.take_left' (by simp [ints_len]; omega)
 generalize ((ints l0).take i).toArray ++ Builtin.zeroCells (Value.int .i64 0).cells (l0.length + l2.length - i) ++ Builtin.zeroCells (Value.int .i64 0).cells (G - (l0.length + l2.length)) = X at *
 have hput1 : i + (ints l2).length ≤ X.size := by rw [ints_len]; omega
 have hb1 := setCells_blk (ints l2) i (w.alloc (.cells X 3)).drew X (hn0 X)
 have hs1 := putC_size _ _ _ hput1
 have hl1 := putC_list _ _ _ hput1
 generalize putC X i (ints l2) = X1 at *
 have hput2 : i + l2.length + ((ints l0).drop i).length ≤ X1.size := by rw [List.length_drop, ints_len]; omega
 have hb2 := setCells_blk ((ints l0).drop i) (i + l2.length) ((w.alloc (.cells X 3)).drew.setCells w.heap.size i (ints l2)).drew X1 hb1
 have hbel := setCells_below (B := w0.heap.size) (a := w0) hsz (ints l2) i (w.alloc (.cells X 3)).drew (hB.alloc hsz _).drew
 have hkep := setCells_kept (a := w) (S := fun k_ => P0_ k_ ∨ P2_ k_) (g := w.heap.size) (.inr (Nat.le_refl _)) (ints l2) i (w.alloc (.cells X 3)).drew (kept0.alloc _).drew
 refine fresh _ G _ (setCells_below hsz _ _ _ hbel.drew) (setCells_kept (.inr (Nat.le_refl _)) _ _ _ hkep.drew) hb2 hge hle (by rw [putC_size _ _ _ hput2]; omega) ?_
 rw [putC_list _ _ _ hput2, ← ints_ins, hl1, hRl]
 have q1 : (((ints l0).take i ++ ints l2 ++ X.toList.drop (i + (ints l2).length)).take (i + l2.length)) = (ints l0).take i ++ ints l2 := List.take_left' (by simp [ints_len]; omega)
 rw [q1]
 exact List.take_left' (by simp [ints_len]; omega)
 }
 }
 }
 {
 rw [if_neg hc] at h
 exact absurd h (by simp)
 }

/-! ### slices_Index_int_int: function 51 -/
def slices_Index_int_int.l0 : Nat → List Int → Int → Int → Int → Option (Int)
 | 0, _, _, _, _ => none
 | k + 1, x0, x1, x7, x8 => if x8 < x7 then (if 0 ≤ x8 then (if x8 < (x0.length : Int) then (if x1 = (rd x0 x8) then (some x8) else (slices_Index_int_int.l0 k x0 x1 x7 (wrap64 (x8 + 1)))) else (none)) else (none)) else (some (-1))
def slices_Index_int_int.f (k : Nat) (l0 : List Int) (a1 : Int) : Option (Int) := slices_Index_int_int.l0 k l0 a1 (l0.length : Int) 0
set_option maxHeartbeats 8000000 in
set_option maxRecDepth 100000 in
theorem slices_Index_int_int.calls (k : Nat) (A0 : Option Addr) (c0 : Nat) (l0 : List Int) (a1 : Int) (r : Int) (w : World) (hr0 : Kd.C (Kd.int .i64) w A0 l0.length l0) (hc0 : l0.length ≤ c0) (h : slices_Index_int_int.f k l0 a1 = some r) :
  Calls Try.prog 51 #[.slice A0 l0.length c0, .int .i64 a1] w fun e w' => e = .returned (.int .i64 r) ∧ Drawn0 w w' := by
 have HR0 := Aside0.mk hr0
 have HC0 := Aside0.mk hc0
 clear hr0 hc0
 have H : (slices_Index_int_int.l0 k l0 a1 (l0.length : Int) 0) = some r := h
 clear h
 have H' := Aside0.mk H
 clear H
 go_enter Try.func51, Try.ntmps51
 go_wp2
 go_loopg [8] k (fun kq v8 w' => ∃ (x8_1 : Int), v8 = .int .i64 x8_1 ∧ Aside0 (slices_Index_int_int.l0 kq l0 a1 (l0.length : Int) x8_1 = some r) ∧ Aside0 (kq ≤ k) ∧ Drawn0 w w')
 case atStart => exact ⟨(0), vX, H', ⟨Nat.le_refl _⟩, by repeat (first | exact Drawn0.refl _ | apply Drawn0.step)⟩
 case round =>
 clear H'
 try clear p2
 obtain ⟨x8_1, rfl, HA, HK1, ⟨m1, rfl⟩⟩ := hrel
 cases gk with
 | zero => exact absurd HA.out (by simp [slices_Index_int_int.l0])
 | succ k1 =>
 have H := HA.out
 clear HA
 simp only [slices_Index_int_int.l0] at H
 by_cases c3 : x8_1 < (l0.length : Int)
 {
 rw [if_pos c3] at H
 have c3b0 : decide (x8_1 < (l0.length : Int)) = true := decide_eq_true c3
 clear c3
 by_cases c4 : 0 ≤ x8_1
 {
 rw [if_pos c4] at H
 have c4b0 : decide (0 ≤ x8_1) = true := decide_eq_true c4
 clear c4
 by_cases c5 : x8_1 < (l0.length : Int)
 {
 rw [if_pos c5] at H
 have c5b0 : decide (x8_1 < (l0.length : Int)) = true := decide_eq_true c5
 clear c5
 by_cases c6 : a1 = (rd l0 x8_1)
 {
 rw [if_pos c6] at H
 have c6b0 : (a1 == (rd l0 x8_1)) = true := beq_iff_eq.mpr c6
 have c6b1 : (a1 != (rd l0 x8_1)) = false := bne_eq_false_iff_eq.mpr c6
 clear c6
 obtain rfl := Option.some.inj H
 have p214 : 0 ≤ (x8_1 : Int) := dX
 have q214 : x8_1 < (l0.length : Int) := dX
 obtain ⟨ad214, e214, hx214_0⟩ := Kd.at_int HR0.out x8_1 p214 q214
 cases e214
 replace p214 := eq_true p214
 replace q214 := eq_true q214
 go_wp2
 go_ret
 exact ⟨by first | rfl | (simp; done) | (simp [*]; done), by repeat (first | exact Drawn0.refl _ | apply Drawn0.step)⟩
 }
 {
 rw [if_neg c6] at H
 have c6b0 : (a1 == (rd l0 x8_1)) = false := beq_eq_false_iff_ne.mpr c6
 have c6b1 : (a1 != (rd l0 x8_1)) = true := bne_iff_ne.mpr c6
 have H' := Aside0.mk H
 clear H
 have p214 : 0 ≤ (x8_1 : Int) := dX
 have q214 : x8_1 < (l0.length : Int) := dX
 obtain ⟨ad214, e214, hx214_0⟩ := Kd.at_int HR0.out x8_1 p214 q214
 cases e214
 replace p214 := eq_true p214
 replace q214 := eq_true q214
 go_wp2
 go_roundg k1
 case measure => have := HK1.out; omega
 case rel => exact ⟨(wrap64 (x8_1 + 1)), vX, H', ⟨by have := HK1.out; omega⟩, by repeat (first | exact Drawn0.refl _ | apply Drawn0.step)⟩
 }
 }
 {
 rw [if_neg c5] at H
 exact absurd H (by simp)
 }
 }
 {
 rw [if_neg c4] at H
 exact absurd H (by simp)
 }
 }
 {
 rw [if_neg c3] at H
 have c3b0 : decide (x8_1 < (l0.length : Int)) = false := decide_eq_false c3
 clear c3
 obtain rfl := Option.some.inj H
 go_wp2
 go_ret
 exact ⟨by first | rfl | (simp; done) | (simp [*]; done), by repeat (first | exact Drawn0.refl _ | apply Drawn0.step)⟩
 }

/-! ### impl_putBehind: function 33 -/
def impl_putBehind.f (k : Nat) (l0 : List Int) (a1 : Int) : Option (List Int) := if 0 ≤ (wrap64 ((l0.length : Int) - 1)) then (if (wrap64 ((l0.length : Int) - 1)) < (l0.length : Int) then (if (wrap64 ((l0.length : Int) - 1)) ≤ (l0.length : Int) then ((impl_copyInts.f (l0.take ((wrap64 ((l0.length : Int) - 1)) : Int).toNat)).bind fun t217 => ((slices_Index_int_int.f k (l0.take ((wrap64 ((l0.length : Int) - 1)) : Int).toNat) a1).bind fun t220 => ((slices_Insert_int_int.f t217 (wrap64 (t220 + 1)) (([rd l0 (wrap64 ((l0.length : Int) - 1))] : List Int))).bind fun t224 => (some t224)))) else (none)) else (none)) else (none)
set_option maxHeartbeats 8000000 in
set_option maxRecDepth 100000 in
theorem impl_putBehind.calls (k : Nat) (A0 : Option Addr) (c0 : Nat) (l0 : List Int) (a1 : Int) (r : List Int) (w : World) (hr0 : Kd.C (Kd.int .i64) w A0 l0.length l0) (hc0 : l0.length ≤ c0) (h : impl_putBehind.f k l0 a1 = some r) :
  Calls Try.prog 33 #[.slice A0 l0.length c0, .int .i64 a1] w fun e w' => ∃ v0_ : Value, e = .returned (v0_) ∧ Kd.R (Kd.int .i64) 3 w' w.heap.size (fun _ => True) v0_ r ∧ Below w.heap.size w w' := by
 have HR0 := Aside0.mk hr0
 have HC0 := Aside0.mk hc0
 clear hr0 hc0
 have HB := Aside0.mk (Below.refl w.heap.size w)
 have H : (if 0 ≤ (wrap64 ((l0.length : Int) - 1)) then (if (wrap64 ((l0.length : Int) - 1)) < (l0.length : Int) then (if (wrap64 ((l0.length : Int) - 1)) ≤ (l0.length : Int) then ((impl_copyInts.f (l0.take ((wrap64 ((l0.length : Int) - 1)) : Int).toNat)).bind fun t217 => ((slices_Index_int_int.f k (l0.take ((wrap64 ((l0.length : Int) - 1)) : Int).toNat) a1).bind fun t220 => ((slices_Insert_int_int.f t217 (wrap64 (t220 + 1)) (([rd l0 (wrap64 ((l0.length : Int) - 1))] : List Int))).bind fun t224 => (some t224)))) else (none)) else (none)) else (none)) = some r := h
 clear h
 obtain ⟨ji3, hji3⟩ : ∃ j_ : Int, (wrap64 ((l0.length : Int) - 1)) = j_ := ⟨_, rfl⟩
 replace H : (if 0 ≤ (ji3) then (if (ji3) < (l0.length : Int) then (if (ji3) ≤ (l0.length : Int) then ((impl_copyInts.f (l0.take ((ji3) : Int).toNat)).bind fun t217 => ((slices_Index_int_int.f k (l0.take ((ji3) : Int).toNat) a1).bind fun t220 => ((slices_Insert_int_int.f t217 (wrap64 (t220 + 1)) (([rd l0 (ji3)] : List Int))).bind fun t224 => (some t224)))) else (none)) else (none)) else (none)) = some r := by first | (rw [hji3] at H; exact H) | (simp only [hji3] at H ⊢; exact H)
 have hji3w : (IntKind.i64.wrap ((l0.length : Int) - 1)) = ji3 := (i64_w _).trans hji3
 by_cases c4 : 0 ≤ (ji3)
 {
 rw [if_pos c4] at H
 have c4b0 : decide (0 ≤ (ji3)) = true := decide_eq_true c4
 clear c4
 by_cases c5 : (ji3) < (l0.length : Int)
 {
 rw [if_pos c5] at H
 have c5b0 : decide ((ji3) < (l0.length : Int)) = true := decide_eq_true c5
 clear c5
 have c6b0 := eq_true (dX : 0 ≤ (ji3))
 by_cases c7 : (ji3) ≤ (l0.length : Int)
 {
 rw [if_pos c7] at H
 have c7b0 := eq_true c7
 have c7b1 : decide ((ji3) ≤ (l0.length : Int)) = true := decide_eq_true c7
 clear c7
 replace H := Option.bind_eq_some_iff.mp H
 obtain ⟨t217, A80, H⟩ := H
 replace H : ((slices_Index_int_int.f k (l0.take ((ji3) : Int).toNat) a1).bind fun t220 => ((slices_Insert_int_int.f t217 (wrap64 (t220 + 1)) (([rd l0 (ji3)] : List Int))).bind fun t224 => (some t224))) = some r := H
 have A8 := Aside0.mk A80
 clear A80
 replace H := Option.bind_eq_some_iff.mp H
 obtain ⟨t220, A90, H⟩ := H
 replace H : ((slices_Insert_int_int.f t217 (wrap64 (t220 + 1)) (([rd l0 (ji3)] : List Int))).bind fun t224 => (some t224)) = some r := H
 have A9 := Aside0.mk A90
 clear A90
 obtain ⟨y221, hy221⟩ : ∃ y_ : List Int, y_ = (([rd l0 (ji3)] : List Int)) := ⟨_, rfl⟩
 replace H : ((slices_Insert_int_int.f t217 (wrap64 (t220 + 1)) y221).bind fun t224 => (some t224)) = some r := by first | (rw [hy221]; with_reducible exact H) | (have H2_ := (Option.bind_some _ _).symm.trans H; rw [hy221]; with_reducible exact H2_) | (have H2_ := (Option.bind_some _ _).symm.trans H; with_reducible exact H2_) | with_reducible exact H | (rw [hy221]; exact H) | exact H
 have Ny221 := Aside0.mk hy221
 clear hy221
 replace H := Option.bind_eq_some_iff.mp H
 obtain ⟨t224, A100, H⟩ := H
 replace H : (some t224) = some r := H
 have A10 := Aside0.mk A100
 clear A100
 obtain rfl := Option.some.inj H
 have p215 : 0 ≤ ((ji3) : Int) := dX
 have q215 : (ji3) < (l0.length : Int) := dX
 obtain ⟨ad215, e215, hx215_0⟩ := Kd.at_int HR0.out (ji3) p215 q215
 cases e215
 replace p215 := eq_true p215
 replace q215 := eq_true q215
 obtain ⟨i011, hi011, _, hsz11, _⟩ := info_parts info3
 obtain ⟨hcut11, hA11, hC11⟩ := print_take_of (P := Try.prog) (Value.int .i64) 0 22 3 .i64 Try.underlying22 hi011 hsz11 (some ad215) c0 l0 (ji3) (dX) (dX) HC0.out
 have HR216 := Aside0.mk (Kd.C_of_reads (h1 := fun _ => rfl) (hA11 _ (Kd.reads_of_C HR0.out)))
 have HC216 := Aside0.mk hC11
 clear hA11 hC11 hi011 hsz11
 go_enter Try.func33, Try.ntmps33
 go_wp2_with (first | ((with_reducible refine gate_callee (f := 49) rfl ?_); refine goesL_ (some 19) rfl rfl Try.func49 (by kernel_rfl) rfl #[.slice (some ad215) (l0.take ((ji3) : Int).toNat).length c0] rfl (by (try simp only [List.map_toArray, List.map_cons, List.map_nil]); first | done | (rw [show (l0.take ((ji3) : Int).toNat).length = (ji3).toNat from (by rw [List.length_take]; have h_ : ((ji3) : Int) ≤ (l0.length : Int) := dX; omega)] <;> rfl) | (simp only [hji3]; rfl) | rfl | (simp only [List.length_drop, List.length_take]; rfl)) ?_; (with_reducible refine (impl_copyInts.calls _ _ (l0.take ((ji3) : Int).toNat) t217 _ ?side1 ?side2 A8.out).mono ?_); (case side1 => exact cX HR216.out); (case side2 => exact HC216.out); rintro e w12 ⟨v218, rfl, ho0, hb⟩; refine ⟨_, rfl, ?_⟩; have n0_ := Aside0.mk (Kd.R_lower ho0 (below_size (bX HB.out))); have n1_ := Aside0.mk (below_step (bX HB.out) hb); clear HB; have HO219 := n0_; have HB := n1_; clear n0_ n1_; (try clear hb); (try clear hb2); (try clear hk); (try clear hi); (try clear ho0)) | ((with_reducible refine gate_callee (f := 51) rfl ?_); refine goesL_ (some 22) rfl rfl Try.func51 (by kernel_rfl) rfl #[.slice (some ad215) (l0.take ((ji3) : Int).toNat).length c0, .int .i64 a1] rfl (by (try simp only [List.map_toArray, List.map_cons, List.map_nil]); first | done | (rw [show (l0.take ((ji3) : Int).toNat).length = (ji3).toNat from (by rw [List.length_take]; have h_ : ((ji3) : Int) ≤ (l0.length : Int) := dX; omega)] <;> rfl) | (simp only [hji3]; rfl) | rfl | (simp only [List.length_drop, List.length_take]; rfl)) ?_; (with_reducible refine (slices_Index_int_int.calls k _ _ (l0.take ((ji3) : Int).toNat) a1 t220 _ ?side1 ?side2 A9.out).mono ?_); (case side1 => exact cX (Kd.C_below HR216.out HB.out)); (case side2 => exact HC216.out); rintro e w' ⟨rfl, ⟨nd, rfl⟩⟩; refine ⟨_, rfl, ?_⟩) | ((with_reducible refine gate_dst (N := 25) rfl ?_); refine Kd.R_lit (Kd.int .i64) _ 3 ?hg (N := 25) ?hd (xs := ([rd l0 (ji3)] : List Int)) (inner := [.int .i64 (rd l0 (ji3))]) (ok := fun _ => True) (okp := fun _ => True) ?hr ?hp (fun _ hk => hk) trivial (Below.refl _ _) (Nat.le_refl _) (by simp) ?_; (case hd => rfl); (case hg => rfl); (case hr => first | (go_simp; done) | (go_simp; rfl)); (case hp => exact (Reps.one (show Kd.M (Kd.int .i64) _ _ _ (rd l0 (ji3)) [.int .i64 (rd l0 (ji3))] from rfl) (Reps.none _ _))); intro v222 w13 ho14 hb hg_ hnew_; clear hg_ hnew_; (first | rw [← Ny221.out] at ho14 | (simp only [Int.reduceToNat] at ho14; rw [← Ny221.out] at ho14)); have n0_ := Aside0.mk (Kd.R_elder' (rX HO219.out) (Kd.R_base ho14) hb); have n1_ := Aside0.mk (Kd.R_lower (Kd.R_new' ho14 (Kd.R_lt (rX HO219.out))) (below_size (bX HB.out))); have n2_ := Aside0.mk (below_step (bX HB.out) hb); clear HO219 HB; have HO219 := n0_; have HO223 := n1_; have HB := n2_; clear n0_ n1_ n2_ hb ho14; obtain ⟨Ao15, co15, eo15⟩ := Kd.R_slice HO219.out; subst eo15; obtain ⟨Ao16, co16, eo16⟩ := Kd.R_slice HO223.out; subst eo16) | ((with_reducible refine gate_callee (f := 50) rfl ?_); refine goesL_ (some 26) rfl rfl Try.func50 (by kernel_rfl) rfl #[.slice Ao15 t217.length co15, .int .i64 (wrap64 (t220 + 1)), .slice Ao16 y221.length co16] rfl aX ?_; (with_reducible refine (slices_Insert_int_int.calls (fun k_ => some k_ = (.slice Ao15 t217.length co15 : Value).ownBlock) (.slice Ao15 t217.length co15) t217 (wrap64 (t220 + 1)) (fun k_ => some k_ = (.slice Ao16 y221.length co16 : Value).ownBlock) (.slice Ao16 y221.length co16) y221 t224 w _ ?side1 ?side2 ?side3 ?side4 ?side5 A10.out).mono ?_); (case side1 => repeat (first | (with_reducible first | exact HB.out|apply bA|apply bN|apply bD) | exact HB.out)); (case side2 => exact Kd.R_tight rfl HO219.out); (case side3 => exact fun k_ e_ => (HO219.out.1 k_ e_.symm).2); (case side4 => exact Kd.R_tight rfl HO223.out); (case side5 => exact fun k_ e_ => (HO223.out.1 k_ e_.symm).2); rintro e w17 ⟨v225, rfl, ho0, hb, hkp⟩; refine ⟨_, rfl, ?_⟩; have n0_ := Aside0.mk (Kd.R_mono (ok' := fun k_ => True) ho0 (fun k_ hk_ => trivial)); have n1_ := Aside0.mk (hb); clear HB HO219 HO223; have HO226 := n0_; have HB := n1_; clear n0_ n1_; (try clear hb); (try clear hkp); (try clear ho0)))
 go_ret
 exact ⟨_, by first | rfl | (simp [errW_none, errW_some] <;> rfl) | (simp only [← hji3]; first | rfl | (simp [errW_none, errW_some] <;> rfl)) | (simp [*, errW_none, errW_some] <;> rfl), by (with_reducible repeat (first|apply rA|apply rN|apply rD)); exact HO226.out, bX HB.out⟩
 }
 {
 rw [if_neg c7] at H
 exact absurd H (by simp)
 }
 }
 {
 rw [if_neg c5] at H
 exact absurd H (by simp)
 }
 }
 {
 rw [if_neg c4] at H
 exact absurd H (by simp)
 }

end Go.Proofs.Ytfomhkfgdggngaa.S
