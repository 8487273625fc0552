-- PRINTED by print.py (a twelfth state) out of the translation. Not trusted: Lean checks it.
import Derived.Test.YtlbhjemkjkdndaaS0
import Derived.Test.YtlbhjemkjkdndaaS4
import Derived.Test.YtlbhjemkjkdndaaS7
import Derived.Test.YtlbhjemkjkdndaaS8
namespace Go.Proofs.Ytlbhjemkjkdndaa.S
set_option maxHeartbeats 8000000
set_option maxRecDepth 100000
open Go.RowKit Go.Proofs.YtlbhjemkjkdndaaW.PrintWords Go.Proofs.YtlbhjemkjkdndaaW.PrintLast Go.Proofs.YtlbhjemkjkdndaaW.PrintMore
attribute [local go_sem] max2_int min2_int max_two min_two max_three min_three max_four min_four   -- for this text's walks alone
set_option linter.unusedVariables false
set_option linter.unusedSimpArgs false

/-! ### i_compareSurfaces: function 53 -/
def i_compareSurfaces.f (k : Nat) (l0_0 : List Int) (l0_1 : List Int) (l1_0 : List Int) (l1_1 : List Int) : Option (Int) := (slices_Compare_int_int.f k l0_0 l1_0).bind fun t476 => (if t476 = 0 then ((slices_Compare_int_int.f k l0_1 l1_1).bind fun t477 => (some t477)) else (some t476))
theorem i_compareSurfaces.calls (k : Nat) (A0_0 : Option Addr) (c0_0 : Nat) (l0_0 : List Int) (A0_1 : Option Addr) (c0_1 : Nat) (l0_1 : List Int) (A1_0 : Option Addr) (c1_0 : Nat) (l1_0 : List Int) (A1_1 : Option Addr) (c1_1 : Nat) (l1_1 : List Int) (r : Int) (w : World) (hr0_0 : Kd.C (Kd.int .i64) w A0_0 l0_0.length l0_0) (hc0_0 : l0_0.length ≤ c0_0) (hr0_1 : Kd.C (Kd.int .i64) w A0_1 l0_1.length l0_1) (hc0_1 : l0_1.length ≤ c0_1) (hr1_0 : Kd.C (Kd.int .i64) w A1_0 l1_0.length l1_0) (hc1_0 : l1_0.length ≤ c1_0) (hr1_1 : Kd.C (Kd.int .i64) w A1_1 l1_1.length l1_1) (hc1_1 : l1_1.length ≤ c1_1) (h : i_compareSurfaces.f k l0_0 l0_1 l1_0 l1_1 = some r) :
  Calls Try.prog 53 #[.agg #[.slice A0_0 l0_0.length c0_0, .slice A0_1 l0_1.length c0_1], .agg #[.slice A1_0 l1_0.length c1_0, .slice A1_1 l1_1.length c1_1]] w fun e w' => e = .returned (.int .i64 r) ∧ Below w.heap.size w w' := by
 have hu27 := Try.underlying27
 have HR0_0 := aM hr0_0
 have HC0_0 := aM hc0_0
 clear hr0_0 hc0_0
 have HR0_1 := aM hr0_1
 have HC0_1 := aM hc0_1
 clear hr0_1 hc0_1
 have HR1_0 := aM hr1_0
 have HC1_0 := aM hc1_0
 clear hr1_0 hc1_0
 have HR1_1 := aM hr1_1
 have HC1_1 := aM hc1_1
 clear hr1_1 hc1_1
 have HB := aM (Below.refl w.heap.size w)
 have H : ((slices_Compare_int_int.f k l0_0 l1_0).bind fun t476 => (if t476 = 0 then ((slices_Compare_int_int.f k l0_1 l1_1).bind fun t477 => (some t477)) else (some t476))) = some r := h
 clear h
 replace H := oB H
 obtain ⟨t476, A30, H⟩ := H
 replace H : (if t476 = 0 then ((slices_Compare_int_int.f k l0_1 l1_1).bind fun t477 => (some t477)) else (some t476)) = some r := H
 have A3 := aM A30
 clear A30
 by_cases c4 : t476 = 0
 {
 rw [if_pos c4] at H
 have c4b0 : (t476 == 0) = true := beq_iff_eq.mpr c4
 have c4b1 : (t476 != 0) = false := bne_eq_false_iff_eq.mpr c4
 clear c4
 replace H := oB H
 obtain ⟨t477, A50, H⟩ := H
 replace H : (some t477) = some r := H
 have A5 := aM A50
 clear A50
 obtain rfl := Option.some.inj H
 go_enter Try.func53, Try.ntmps53
 go_wp2_with (first | ((with_reducible refine gate_dst (N := 2) rfl ?_); refine bEv (cs := #[.slice A0_0 l0_0.length c0_0, .slice A0_1 l0_1.length c0_1]) (t := 27) ?_; intro gb474 hg w6 hbox hb; have BK474 := aM (hbox); have GW474 := aM ((szX (below_size (bX HB.out)) hg : w.heap.size ≤ gb474)); have GE474 := aM ((szX (below_size (bX HB.out)) hg : w.heap.size ≤ gb474)); replace HB := aM (below_step (bX HB.out) hb); clear hb hbox hg) | ((with_reducible refine gate_dst (N := 3) rfl ?_); refine bEv (cs := #[.slice A1_0 l1_0.length c1_0, .slice A1_1 l1_1.length c1_1]) (t := 27) ?_; intro gb475 hg w7 hbox hb; have BK475 := aM (hbox); have GW475 := aM ((szX (below_size (bX1 HB.out GE474.out)) hg : w.heap.size ≤ gb475)); have GE475 := aM ((szX (below_size (bX1 HB.out GE474.out)) hg : w.heap.size ≤ gb475)); replace HB := aM (below_step (bX1 HB.out GE474.out) hb); have NB474_475 := aM (neX BK474.out hg); have NB475_474 := aM (nfX BK474.out hg); replace BK474 := aM (bbX BK474.out hb); clear hb hbox hg; have hnb8 := NB474_475.out; have hnc8 := NB475_474.out; have hcz9_0 := cz20 BK474.out; have hcz9_1 := cz21 BK474.out; have hfz9_0 := blk_frozen BK474.out 0; have hfz9_1 := blk_frozen BK474.out 1; have hcz10_0 : w7.cell? ⟨gb475, 0, none⟩ = some (.slice A1_0 l1_0.length c1_0) := (blk_cell BK475.out 0).trans rfl; have hcz10_1 : w7.cell? ⟨gb475, 1, none⟩ = some (.slice A1_1 l1_1.length c1_1) := (blk_cell BK475.out 1).trans rfl; have hfz10_0 := blk_frozen BK475.out 0; have hfz10_1 := blk_frozen BK475.out 1) | ((with_reducible refine gate_callee (f := 69) rfl ?_); refine goesL_ (some 10) rfl rfl Try.func69 (by kernel_rfl) rfl #[.slice A0_0 l0_0.length c0_0, .slice A1_0 l1_0.length c1_0] rfl aX ?_; (with_reducible refine (slices_Compare_int_int.calls k _ _ l0_0 _ _ l1_0 t476 _ ?side1 ?side2 ?side3 ?side4 A3.out).mono ?_); (case side1 => exact cX (Kd.C_below HR0_0.out HB.out)); (case side2 => exact HC0_0.out); (case side3 => exact cX (Kd.C_below HR1_0.out HB.out)); (case side4 => exact HC1_0.out); rintro e w' ⟨rfl, ⟨nd, rfl⟩⟩; refine ⟨_, rfl, ?_⟩) | ((with_reducible refine gate_callee (f := 69) rfl ?_); refine goesL_ (some 18) rfl rfl Try.func69 (by kernel_rfl) rfl #[.slice A0_1 l0_1.length c0_1, .slice A1_1 l1_1.length c1_1] rfl aX ?_; (with_reducible refine (slices_Compare_int_int.calls k _ _ l0_1 _ _ l1_1 t477 _ ?side1 ?side2 ?side3 ?side4 A5.out).mono ?_); (case side1 => exact cX (Kd.C_below HR0_1.out (bX2 HB.out GE474.out GE475.out))); (case side2 => exact HC0_1.out); (case side3 => exact cX (Kd.C_below HR1_1.out (bX2 HB.out GE474.out GE475.out))); (case side4 => exact HC1_1.out); rintro e w' ⟨rfl, ⟨nd, rfl⟩⟩; refine ⟨_, rfl, ?_⟩))
 go_ret
 exact ⟨eX, bX2 HB.out GE474.out GE475.out⟩
 }
 {
 rw [if_neg c4] at H
 have c4b0 : (t476 == 0) = false := beq_eq_false_iff_ne.mpr c4
 have c4b1 : (t476 != 0) = true := bne_iff_ne.mpr c4
 obtain rfl := Option.some.inj H
 go_enter Try.func53, Try.ntmps53
 go_wp2_with (first | ((with_reducible refine gate_dst (N := 2) rfl ?_); refine bEv (cs := #[.slice A0_0 l0_0.length c0_0, .slice A0_1 l0_1.length c0_1]) (t := 27) ?_; intro gb474 hg w11 hbox hb; have BK474 := aM (hbox); have GW474 := aM ((szX (below_size (bX HB.out)) hg : w.heap.size ≤ gb474)); have GE474 := aM ((szX (below_size (bX HB.out)) hg : w.heap.size ≤ gb474)); replace HB := aM (below_step (bX HB.out) hb); clear hb hbox hg) | ((with_reducible refine gate_dst (N := 3) rfl ?_); refine bEv (cs := #[.slice A1_0 l1_0.length c1_0, .slice A1_1 l1_1.length c1_1]) (t := 27) ?_; intro gb475 hg w12 hbox hb; have BK475 := aM (hbox); have GW475 := aM ((szX (below_size (bX1 HB.out GE474.out)) hg : w.heap.size ≤ gb475)); have GE475 := aM ((szX (below_size (bX1 HB.out GE474.out)) hg : w.heap.size ≤ gb475)); replace HB := aM (below_step (bX1 HB.out GE474.out) hb); have NB474_475 := aM (neX BK474.out hg); have NB475_474 := aM (nfX BK474.out hg); replace BK474 := aM (bbX BK474.out hb); clear hb hbox hg; have hnb13 := NB474_475.out; have hnc13 := NB475_474.out; have hcz14_0 := cz20 BK474.out; have hcz14_1 := cz21 BK474.out; have hfz14_0 := blk_frozen BK474.out 0; have hfz14_1 := blk_frozen BK474.out 1; have hcz15_0 : w12.cell? ⟨gb475, 0, none⟩ = some (.slice A1_0 l1_0.length c1_0) := (blk_cell BK475.out 0).trans rfl; have hcz15_1 : w12.cell? ⟨gb475, 1, none⟩ = some (.slice A1_1 l1_1.length c1_1) := (blk_cell BK475.out 1).trans rfl; have hfz15_0 := blk_frozen BK475.out 0; have hfz15_1 := blk_frozen BK475.out 1) | ((with_reducible refine gate_callee (f := 69) rfl ?_); refine goesL_ (some 10) rfl rfl Try.func69 (by kernel_rfl) rfl #[.slice A0_0 l0_0.length c0_0, .slice A1_0 l1_0.length c1_0] rfl aX ?_; (with_reducible refine (slices_Compare_int_int.calls k _ _ l0_0 _ _ l1_0 t476 _ ?side1 ?side2 ?side3 ?side4 A3.out).mono ?_); (case side1 => exact cX (Kd.C_below HR0_0.out HB.out)); (case side2 => exact HC0_0.out); (case side3 => exact cX (Kd.C_below HR1_0.out HB.out)); (case side4 => exact HC1_0.out); rintro e w' ⟨rfl, ⟨nd, rfl⟩⟩; refine ⟨_, rfl, ?_⟩))
 go_ret
 exact ⟨eX, bX2 HB.out GE474.out GE475.out⟩
 }

/-! ### i_CanonOf: function 39 -/
/-! by hand -/
/-- The first of the least, from an element on. -/
def minGo (k : Nat) (m : S27) : List S27 → Option S27
  | [] => some m
  | x :: xs => (i_compareSurfaces.f k x.f0 x.f1 m.f0 m.f1).bind fun c => minGo k (if c < 0 then x else m) xs
def i_CanonOf.f (k : Nat) (l0_0 l0_1 : List Int) : Option (List Int × List Int × Bool) := (i_namedFrom.f k l0_0 l0_1).bind fun l => if l.length ≤ 1000 then (if l = [] then some ([], [], false) else (minGo k (rd_T27 l 0) (l.drop 1)).bind fun s => some (s.f0, s.f1, true)) else none
/-- A surface that is read: two rows. -/
structure SurfC (w : World) (A0 A1 : Option Addr) (c0 c1 : Nat) (x y : List Int) : Prop where
  l0 : x.length ≤ c0
  g0 : Kd.C (Kd.int .i64) w A0 x.length x
  l1 : y.length ≤ c1
  g1 : Kd.C (Kd.int .i64) w A1 y.length y
theorem SurfC.below {w w' : World} {A0 A1 : Option Addr} {c0 c1 : Nat} {x y : List Int} (h : SurfC w A0 A1 c0 c1 x y) (hb : Below w.heap.size w w') : SurfC w' A0 A1 c0 c1 x y := ⟨h.l0, Kd.C_below h.g0 hb, h.l1, Kd.C_below h.g1 hb⟩
/-- The same, with the blocks it lies in. -/
def SurfF (w : World) (ok : Nat → Prop) (A0 A1 : Option Addr) (c0 c1 : Nat) (x y : List Int) : Prop := Foot (fun W => SurfC W A0 A1 c0 c1 x y) w ok
theorem SurfF.below {w w' : World} {ok : Nat → Prop} {A0 A1 : Option Addr} {c0 c1 : Nat} {x y : List Int} (h : SurfF w ok A0 A1 c0 c1 x y) (hb : Below w.heap.size w w') : SurfC w' A0 A1 c0 c1 x y := h w' (fun k _ hlt => hb.block k hlt)
theorem SurfF.l0 {w : World} {ok : Nat → Prop} {A0 A1 : Option Addr} {c0 c1 : Nat} {x y : List Int} (h : SurfF w ok A0 A1 c0 c1 x y) : x.length ≤ c0 := (Foot.now h).l0
theorem SurfF.l1 {w : World} {ok : Nat → Prop} {A0 A1 : Option Addr} {c0 c1 : Nat} {x y : List Int} (h : SurfF w ok A0 A1 c0 c1 x y) : y.length ≤ c1 := (Foot.now h).l1
theorem cell_same {w W : World} {p : Addr} {b : Nat} (hp : p.block = b) (h : W.heap[b]? = w.heap[b]?) : W.cell? p = w.cell? p := by
 unfold World.cell?
 rw [hp, h]
theorem canon_add_block (a : Addr) (n : Nat) : (a.add n).block = a.block := by
 unfold Addr.add
 split <;> rfl
theorem surf_elem {w : World} {ok : Nat → Prop} {A : Option Addr} {l : List S27} (hF : Kd.F k27 w ok A l.length l) (hA : ∀ a, A = some a → ok a.block ∧ a.block < w.heap.size) (i : Int) (h0 : 0 ≤ i) (h1 : i < l.length) :
    ∃ ad C0 d0 C1 d1, A = some ad ∧ w.cell? (ad.add (i.toNat * 2)) = some (.slice C0 (rd_T27 l i).f0.length d0) ∧ w.cell? ⟨(ad.add (i.toNat * 2)).block, (ad.add (i.toNat * 2)).off + 1, none⟩ = some (.slice C1 (rd_T27 l i).f1.length d1) ∧ SurfF w ok C0 C1 d0 d1 (rd_T27 l i).f0 (rd_T27 l i).f1 := by
 obtain ⟨ad, C0, d0, C1, d1, rfl, hx0, hx1, l0, g0, l1, g1⟩ := at_T27 (Kd.F_now hF) i h0 h1
 refine ⟨ad, C0, d0, C1, d1, rfl, hx0, hx1, fun W hW => ?_⟩
 obtain ⟨ad2, E0, f0, E1, f1, e2, hy0, hy1, m0, n0, m1, n1⟩ := at_T27 (hF W hW) i h0 h1
 cases e2
 have hb := hA ad rfl
 have q := hW _ hb.1 hb.2
 rw [cell_same (canon_add_block _ _) q, hx0] at hy0
 rw [cell_same (p := ⟨(ad.add (i.toNat * 2)).block, (ad.add (i.toNat * 2)).off + 1, none⟩) (canon_add_block _ _) q, hx1] at hy1
 have z0 := Option.some.inj hy0
 have z1 := Option.some.inj hy1
 injection z0 with a1 a2 a3
 injection z1 with b1 b2 b3
 subst a1 a3 b1 b3
 exact ⟨m0, n0, m1, n1⟩
theorem minf_calls (k : Nat) (A0 : Option Addr) (c0 : Nat) (l0 : List S27) (r : S27) (w : World) (ok : Nat → Prop) (hr0 : Kd.F k27 w ok A0 l0.length l0) (hA : ∀ a, A0 = some a → ok a.block ∧ a.block < w.heap.size) (hn : 0 < l0.length) (hbig : l0.length ≤ 1000) (h : minGo k (rd_T27 l0 0) (l0.drop 1) = some r) :
    Calls Try.prog 52 #[.slice A0 l0.length c0, .func (.func 53) #[] #[]] w fun e w' => ∃ B0 b0 B1 b1, e = .returned (.agg #[.slice B0 r.f0.length b0, .slice B1 r.f1.length b1]) ∧ SurfF w ok B0 B1 b0 b1 r.f0 r.f1 ∧ Below w.heap.size w w' := by
  have hu := Try.underlying27
  have HR0 := aM hr0
  clear hr0
  have HADR := aM hA
  clear hA
  have HA := aM h
  clear h
  have HB := aM (Below.refl w.heap.size w)
  obtain ⟨ad, B0, b0, B1, b1, ead, hx0, hx1, gx⟩ := surf_elem HR0.out HADR.out 0 (Int.le_refl 0) (by omega)
  cases ead
  have GX := aM gx
  clear gx
  have hb1 : decide ((l0.length : Int) < 1) = false := decide_eq_false (by omega)
  have hp0 : decide ((0 : Int) < (l0.length : Int)) = true := decide_eq_true (by omega)
  have hp1 : (0 : Int) < (l0.length : Int) := by omega
  have e0 : ad.add (Int.toNat 0 * 2) = ad := by cases ad; rfl
  rw [e0] at hx0 hx1
  clear e0
  have HN := aM hn
  have HG := aM hbig
  clear hn hbig
  generalize (rd_T27 l0 0) = m0 at *
  go_enter Try.func52, Try.ntmps52
  go_wp2_with (first
    | ((with_reducible refine gate_dst (N := 4) rfl ?_); refine bEv (cs := #[.slice none 0 0, .slice none 0 0]) (t := 27) ?_; intro gb4 hg4 w4 hbox4 hb4; have BK4 := aM hbox4; have HB4 := aM hb4; have GB4 := aM hg4; clear hbox4 hb4 hg4; replace hx0 := (HB4.out.cell (World.block_lt_of_cell? w _ hx0)).trans hx0; replace hx1 := (HB4.out.cell (World.block_lt_of_cell? w _ hx1)).trans hx1)
    | ((with_reducible refine gate_dst (N := 5) rfl ?_); refine bEv (cs := #[.slice none 0 0, .slice none 0 0]) (t := 27) ?_; intro gb5 hg5 w5 hbox5 hb5; have BK5 := aM hbox5; have HB5 := aM hb5; have GB5 := aM hg5; clear hbox5 hb5 hg5)
    | (refine wpList_store_row rfl 27 (.tmp 5) (.tmp 13) rfl gb5 #[.slice B0 m0.f0.length b0, .slice B1 m0.f1.length b1] rfl rfl 27 #[.slice none 0 0, .slice none 0 0] BK5.out (by kernel_rfl) rfl (by simp [Value.oneCell']) ?_))
  have H45 : w.heap.size ≤ gb5 := by rw [GB5.out]; exact below_size HB4.out
  have HG5 := aM H45
  have HG4 : Aside0 (w.heap.size ≤ gb4) := ⟨by rw [GB4.out]; exact Nat.le_refl _⟩
  have HNE : Aside0 (gb4 ≠ gb5) := ⟨by have h1 := blk_lt BK4.out; have h2 := GB5.out; omega⟩
  clear H45
  have HC5 := aM (show (w5.setRow gb5 #[.slice B0 m0.f0.length b0, .slice B1 m0.f1.length b1]).heap[gb5]? = some (.cells #[.slice B0 m0.f0.length b0, .slice B1 m0.f1.length b1] 27 (0, 0)) from setRow_heap w5 gb5 _ _ _ _ BK5.out)
  have HC4 := aM (show (w5.setRow gb5 #[.slice B0 m0.f0.length b0, .slice B1 m0.f1.length b1]).heap[gb4]? = some (.cells #[.slice none 0 0, .slice none 0 0] 27 (0, 0)) from (setRow_other w5 gb5 gb4 _ HNE.out).trans (blk_below BK4.out HB5.out))
  have HBB := aM (show Below w.heap.size w (w5.setRow gb5 #[.slice B0 m0.f0.length b0, .slice B1 m0.f1.length b1]) from below_setRow (below_step HB4.out HB5.out) HG5.out _)
  go_loopg [6] l0.length (fun kq v6 w' => ∃ (i : Int) (m : S27) (B0 : Option Addr) (b0 : Nat) (B1 : Option Addr) (b1 : Nat), v6 = .int .i64 i ∧ Aside0 (1 ≤ i ∧ i ≤ l0.length ∧ (kq : Int) + i = l0.length + 1) ∧ Aside0 (minGo k m (l0.drop i.toNat) = some r) ∧ Aside0 (w'.heap[gb5]? = some (.cells #[.slice B0 m.f0.length b0, .slice B1 m.f1.length b1] 27 (0, 0))) ∧ Aside0 (w'.heap[gb4]? = some (.cells #[.slice none 0 0, .slice none 0 0] 27 (0, 0))) ∧ Aside0 (SurfF w ok B0 B1 b0 b1 m.f0 m.f1) ∧ Aside0 (Below w.heap.size w w'))
  case atStart => exact ⟨1, m0, B0, b0, B1, b1, rfl, ⟨by have := HN.out; omega⟩, HA, HC5, HC4, GX, HBB⟩
  case round =>
    clear HC5 HC4 HBB GX hx0 hx1 BK4 BK5 HB4 HB5 GB4 GB5 HA HB hp0 hp1 hb1
    obtain ⟨i, m, B0, b0, B1, b1, rfl, HI, HA, HC5, HC4, GX, HB⟩ := hrel
    obtain ⟨hi0, hi1, hik⟩ := HI.out
    clear HI
    obtain ⟨k1, rfl⟩ : ∃ q, gk = q + 1 := ⟨gk - 1, by omega⟩
    have HK := aM hik
    clear hik
    have hcz0 : wr.cell? ⟨gb5, 0, none⟩ = some (.slice B0 m.f0.length b0) := (blk_cell HC5.out 0).trans rfl
    have hcz1 : wr.cell? ⟨gb5, 1, none⟩ = some (.slice B1 m.f1.length b1) := (blk_cell HC5.out 1).trans rfl
    by_cases hlt : i < (l0.length : Int)
    · have c1 : decide (i < (l0.length : Int)) = true := decide_eq_true hlt
      have hi00 : 0 ≤ i := by omega
      obtain ⟨ad2, C0, d0, C1, d1, e2, hy0, hy1, gy⟩ := surf_elem HR0.out HADR.out i hi00 hlt
      cases e2
      have HY0 := aM hy0
      have HY1 := aM hy1
      have GY := aM gy
      clear gy
      replace hy0 := (HB.out.cell (World.block_lt_of_cell? w _ hy0)).trans hy0
      replace hy1 := (HB.out.cell (World.block_lt_of_cell? w _ hy1)).trans hy1
      have hdrop : l0.drop i.toNat = rd_T27 l0 i :: l0.drop (i + 1).toNat := by
        have h1 : i.toNat < l0.length := by omega
        rw [show (i + 1).toNat = i.toNat + 1 by omega, List.drop_eq_getElem_cons h1]
        simp [rd_T27, List.getD, h1]
      have hgo := HA.out
      rw [hdrop, minGo] at hgo
      clear HA hdrop
      generalize rd_T27 l0 i = x at *
      obtain ⟨c, hc, hgo⟩ := oB hgo
      have HCC := aM hc
      have HGO := aM hgo
      clear hc hgo
      have p0 : decide (0 ≤ i) = true := decide_eq_true hi00
      have HW := aM (show wrap64 (i + 1) = i + 1 from by have := HG.out; unfold wrap64; omega)
      have HI0 := aM hi00
      have HI1 := aM hlt
      replace hi00 := eq_true hi00
      replace hlt := eq_true hlt
      clear hi0 hi1
      by_cases hcl : c < 0
      · have c2 : decide (c < 0) = true := decide_eq_true hcl
        have HG2 := aM (show minGo k x (l0.drop (i + 1).toNat) = some r from by have := HGO.out; rwa [if_pos hcl] at this)
        clear hcl HGO
        go_wp2
        refine start_ (n := 8) (S := fun w' => w'.cell? (ad.add (i.toNat * 2)) = some (.slice C0 x.f0.length d0) ∧ w'.cell? ⟨(ad.add (i.toNat * 2)).block, (ad.add (i.toNat * 2)).off + 1, none⟩ = some (.slice C1 x.f1.length d1) ∧ w'.cell? ⟨gb5, 0, none⟩ = some (.slice B0 m.f0.length b0) ∧ w'.cell? ⟨gb5, 1, none⟩ = some (.slice B1 m.f1.length b1)) (ds := []) #[ff,ff,ff,ff,ff,ff,ff,ff] (by kernel_rfl) rfl rfl ⟨hy0, hy1, hcz0, hcz1⟩ (fun hHeld => ?_)
        replace HC5 := aM (show wr.drew.heap[gb5]? = _ from HC5.out)
        replace HC4 := aM (show wr.drew.heap[gb4]? = _ from HC4.out)
        replace HB := aM (below_drew1 HB.out)
        clear hy0 hy1 hcz0 hcz1
        generalize wr.drew = W at HC5 HC4 HB hHeld ⊢
        refine pure_ (i := 0) (N := some 20) (v := ?_) (a' := ?_) #[tt,ff,ff,ff,ff,ff,ff,ff] rfl rfl (by kernel_rfl) (fun _ _ _ h => h) (Or.inl ⟨by kernel_rfl, ?_⟩) ?_ ?_
        rotate_left
        · intro w'
          go_simp
          with_reducible rfl
        rotate_left
        · simp only [Act.put, List.setIfInBounds_toArray, List.set_cons_zero, List.set_cons_succ, i64_w, i32_w]
          rfl
        refine pure_ (i := 1) (N := some 21) (v := ?_) (a' := ?_) #[tt,tt,ff,ff,ff,ff,ff,ff] rfl rfl (by kernel_rfl) (fun _ _ _ h => h) (Or.inl ⟨by kernel_rfl, ?_⟩) ?_ ?_
        rotate_left
        · intro w'
          go_simp
          with_reducible rfl
        rotate_left
        · simp only [Act.put, List.setIfInBounds_toArray, List.set_cons_zero, List.set_cons_succ, i64_w, i32_w]
          rfl
        refine pure_ (i := 2) (N := some 22) (v := ?_) (a' := ?_) #[tt,tt,tt,ff,ff,ff,ff,ff] rfl rfl (by kernel_rfl) (fun _ _ _ h => h) (Or.inl ⟨by kernel_rfl, ?_⟩) ?_ ?_
        rotate_left
        · intro w'
          go_simp
          with_reducible rfl
        rotate_left
        · simp only [Act.put, List.setIfInBounds_toArray, List.set_cons_zero, List.set_cons_succ, i64_w, i32_w]
          rfl
        refine pure_ (i := 3) (N := some 23) (v := ?_) (a' := ?_) #[tt,tt,tt,tt,ff,ff,ff,ff] rfl rfl (by kernel_rfl) (fun _ _ _ h => h) (Or.inl ⟨by kernel_rfl, ?_⟩) ?_ ?_
        rotate_left
        · intro w'
          go_simp
          with_reducible rfl
        rotate_left
        · simp only [Act.put, List.setIfInBounds_toArray, List.set_cons_zero, List.set_cons_succ, i64_w, i32_w]
          rfl
        refine take_ (i := 4) (N := some 24) (v := ?_) (a' := ?_) #[tt,tt,tt,tt,tt,ff,ff,ff] rfl rfl (by kernel_rfl) (fun _ _ _ h => h) (Or.inl ⟨by kernel_rfl, ?_⟩) hHeld ?_ ?_
        rotate_left
        · rintro w' ⟨s0, s1, s2, s3⟩
          go_simp
          with_reducible rfl
        rotate_left
        · simp only [Act.put, List.setIfInBounds_toArray, List.set_cons_zero, List.set_cons_succ, i64_w, i32_w]
          rfl
        refine take_ (i := 5) (N := some 25) (v := ?_) (a' := ?_) #[tt,tt,tt,tt,tt,tt,ff,ff] rfl rfl (by kernel_rfl) (fun _ _ _ h => h) (Or.inl ⟨by kernel_rfl, ?_⟩) hHeld ?_ ?_
        rotate_left
        · rintro w' ⟨s0, s1, s2, s3⟩
          go_simp
          with_reducible rfl
        rotate_left
        · simp only [Act.put, List.setIfInBounds_toArray, List.set_cons_zero, List.set_cons_succ, i64_w, i32_w]
          rfl
        refine one_ (i := 6) (N := some 26) #[tt,tt,tt,tt,tt,tt,tt,ff] rfl rfl (by kernel_rfl) (by decide) (fun K hK => ?_)
        refine call_ 53 #[.agg #[.slice C0 x.f0.length d0, .slice C1 x.f1.length d1], .agg #[.slice B0 m.f0.length b0, .slice B1 m.f1.length b1]] (by rfl) rfl ?hrun ?_
        case hrun => unfold execOp; simp [resolve, Deferred.ofValue, invoke, Act.eval, enters_ Try.func53 (by kernel_rfl) rfl]
        refine (i_compareSurfaces.calls k C0 d0 x.f0 C1 d1 x.f1 B0 b0 m.f0 B1 b1 m.f1 c _ (GY.out.below HB.out).g0 GY.out.l0 (GY.out.below HB.out).g1 GY.out.l1 (GX.out.below HB.out).g0 GX.out.l0 (GX.out.below HB.out).g1 GX.out.l1 HCC.out).mono ?_
        rintro e w6 ⟨rfl, hb⟩
        refine ⟨_, rfl, ?_⟩
        have HC5' := aM (blk_below HC5.out hb)
        have HC4' := aM (blk_below HC4.out hb)
        have HB' := aM (below_step HB.out hb)
        have hy0 := (HB'.out.cell (World.block_lt_of_cell? w _ HY0.out)).trans HY0.out
        have hy1 := (HB'.out.cell (World.block_lt_of_cell? w _ HY1.out)).trans HY1.out
        clear HC5 HC4 HB hb
        refine hK.out _ _ ⟨hy0, hy1, (blk_cell HC5'.out 0).trans rfl, (blk_cell HC5'.out 1).trans rfl⟩ (fun hHeld => ?_)
        clear hK K
        refine norm_ (a' := ?_) ?_ ?_
        rotate_left
        · show Act.put _ (some 26) _ = _
          simp only [Act.put, List.setIfInBounds_toArray, List.set_cons_zero, List.set_cons_succ, i64_w, i32_w]
          rfl
        refine pure_ (i := 7) (N := some 27) (v := ?_) (a' := ?_) #[tt,tt,tt,tt,tt,tt,tt,tt] rfl rfl (by kernel_rfl) (fun _ _ _ h => h) (Or.inl ⟨by kernel_rfl, ?_⟩) ?_ ?_
        rotate_left
        · intro w'
          go_simp
          with_reducible rfl
        rotate_left
        · simp only [Act.put, List.setIfInBounds_toArray, List.set_cons_zero, List.set_cons_succ, i64_w, i32_w]
          rfl
        refine done_ (by kernel_rfl) ?_
        clear hHeld
        go_wp2_with (refine wpList_store_row rfl 27 (.tmp 5) (.tmp 31) rfl gb5 #[.slice C0 x.f0.length d0, .slice C1 x.f1.length d1] rfl rfl 27 #[.slice B0 m.f0.length b0, .slice B1 m.f1.length b1] HC5'.out (by kernel_rfl) rfl (by simp [Value.oneCell']) ?_)
        go_roundg k1
        case measure => have := HK.out; omega
        case rel => exact ⟨i + 1, x, C0, d0, C1, d1, by rw [HW.out], ⟨by have := HK.out; have := HI1.out; have := HI0.out; omega⟩, HG2, ⟨setRow_heap _ gb5 _ _ _ _ HC5'.out⟩, ⟨(setRow_other _ gb5 gb4 _ HNE.out).trans HC4'.out⟩, GY, ⟨below_setRow HB'.out HG5.out _⟩⟩
      · have c2 : decide (c < 0) = false := decide_eq_false hcl
        have HG2 := aM (show minGo k m (l0.drop (i + 1).toNat) = some r from by have := HGO.out; rwa [if_neg hcl] at this)
        clear hcl HGO
        go_wp2
        refine start_ (n := 8) (S := fun w' => w'.cell? (ad.add (i.toNat * 2)) = some (.slice C0 x.f0.length d0) ∧ w'.cell? ⟨(ad.add (i.toNat * 2)).block, (ad.add (i.toNat * 2)).off + 1, none⟩ = some (.slice C1 x.f1.length d1) ∧ w'.cell? ⟨gb5, 0, none⟩ = some (.slice B0 m.f0.length b0) ∧ w'.cell? ⟨gb5, 1, none⟩ = some (.slice B1 m.f1.length b1)) (ds := []) #[ff,ff,ff,ff,ff,ff,ff,ff] (by kernel_rfl) rfl rfl ⟨hy0, hy1, hcz0, hcz1⟩ (fun hHeld => ?_)
        replace HC5 := aM (show wr.drew.heap[gb5]? = _ from HC5.out)
        replace HC4 := aM (show wr.drew.heap[gb4]? = _ from HC4.out)
        replace HB := aM (below_drew1 HB.out)
        clear hy0 hy1 hcz0 hcz1
        generalize wr.drew = W at HC5 HC4 HB hHeld ⊢
        refine pure_ (i := 0) (N := some 20) (v := ?_) (a' := ?_) #[tt,ff,ff,ff,ff,ff,ff,ff] rfl rfl (by kernel_rfl) (fun _ _ _ h => h) (Or.inl ⟨by kernel_rfl, ?_⟩) ?_ ?_
        rotate_left
        · intro w'
          go_simp
          with_reducible rfl
        rotate_left
        · simp only [Act.put, List.setIfInBounds_toArray, List.set_cons_zero, List.set_cons_succ, i64_w, i32_w]
          rfl
        refine pure_ (i := 1) (N := some 21) (v := ?_) (a' := ?_) #[tt,tt,ff,ff,ff,ff,ff,ff] rfl rfl (by kernel_rfl) (fun _ _ _ h => h) (Or.inl ⟨by kernel_rfl, ?_⟩) ?_ ?_
        rotate_left
        · intro w'
          go_simp
          with_reducible rfl
        rotate_left
        · simp only [Act.put, List.setIfInBounds_toArray, List.set_cons_zero, List.set_cons_succ, i64_w, i32_w]
          rfl
        refine pure_ (i := 2) (N := some 22) (v := ?_) (a' := ?_) #[tt,tt,tt,ff,ff,ff,ff,ff] rfl rfl (by kernel_rfl) (fun _ _ _ h => h) (Or.inl ⟨by kernel_rfl, ?_⟩) ?_ ?_
        rotate_left
        · intro w'
          go_simp
          with_reducible rfl
        rotate_left
        · simp only [Act.put, List.setIfInBounds_toArray, List.set_cons_zero, List.set_cons_succ, i64_w, i32_w]
          rfl
        refine pure_ (i := 3) (N := some 23) (v := ?_) (a' := ?_) #[tt,tt,tt,tt,ff,ff,ff,ff] rfl rfl (by kernel_rfl) (fun _ _ _ h => h) (Or.inl ⟨by kernel_rfl, ?_⟩) ?_ ?_
        rotate_left
        · intro w'
          go_simp
          with_reducible rfl
        rotate_left
        · simp only [Act.put, List.setIfInBounds_toArray, List.set_cons_zero, List.set_cons_succ, i64_w, i32_w]
          rfl
        refine take_ (i := 4) (N := some 24) (v := ?_) (a' := ?_) #[tt,tt,tt,tt,tt,ff,ff,ff] rfl rfl (by kernel_rfl) (fun _ _ _ h => h) (Or.inl ⟨by kernel_rfl, ?_⟩) hHeld ?_ ?_
        rotate_left
        · rintro w' ⟨s0, s1, s2, s3⟩
          go_simp
          with_reducible rfl
        rotate_left
        · simp only [Act.put, List.setIfInBounds_toArray, List.set_cons_zero, List.set_cons_succ, i64_w, i32_w]
          rfl
        refine take_ (i := 5) (N := some 25) (v := ?_) (a' := ?_) #[tt,tt,tt,tt,tt,tt,ff,ff] rfl rfl (by kernel_rfl) (fun _ _ _ h => h) (Or.inl ⟨by kernel_rfl, ?_⟩) hHeld ?_ ?_
        rotate_left
        · rintro w' ⟨s0, s1, s2, s3⟩
          go_simp
          with_reducible rfl
        rotate_left
        · simp only [Act.put, List.setIfInBounds_toArray, List.set_cons_zero, List.set_cons_succ, i64_w, i32_w]
          rfl
        refine one_ (i := 6) (N := some 26) #[tt,tt,tt,tt,tt,tt,tt,ff] rfl rfl (by kernel_rfl) (by decide) (fun K hK => ?_)
        refine call_ 53 #[.agg #[.slice C0 x.f0.length d0, .slice C1 x.f1.length d1], .agg #[.slice B0 m.f0.length b0, .slice B1 m.f1.length b1]] (by rfl) rfl ?hrun ?_
        case hrun => unfold execOp; simp [resolve, Deferred.ofValue, invoke, Act.eval, enters_ Try.func53 (by kernel_rfl) rfl]
        refine (i_compareSurfaces.calls k C0 d0 x.f0 C1 d1 x.f1 B0 b0 m.f0 B1 b1 m.f1 c _ (GY.out.below HB.out).g0 GY.out.l0 (GY.out.below HB.out).g1 GY.out.l1 (GX.out.below HB.out).g0 GX.out.l0 (GX.out.below HB.out).g1 GX.out.l1 HCC.out).mono ?_
        rintro e w6 ⟨rfl, hb⟩
        refine ⟨_, rfl, ?_⟩
        have HC5' := aM (blk_below HC5.out hb)
        have HC4' := aM (blk_below HC4.out hb)
        have HB' := aM (below_step HB.out hb)
        have hy0 := (HB'.out.cell (World.block_lt_of_cell? w _ HY0.out)).trans HY0.out
        have hy1 := (HB'.out.cell (World.block_lt_of_cell? w _ HY1.out)).trans HY1.out
        clear HC5 HC4 HB hb
        refine hK.out _ _ ⟨hy0, hy1, (blk_cell HC5'.out 0).trans rfl, (blk_cell HC5'.out 1).trans rfl⟩ (fun hHeld => ?_)
        clear hK K
        refine norm_ (a' := ?_) ?_ ?_
        rotate_left
        · show Act.put _ (some 26) _ = _
          simp only [Act.put, List.setIfInBounds_toArray, List.set_cons_zero, List.set_cons_succ, i64_w, i32_w]
          rfl
        refine pure_ (i := 7) (N := some 27) (v := ?_) (a' := ?_) #[tt,tt,tt,tt,tt,tt,tt,tt] rfl rfl (by kernel_rfl) (fun _ _ _ h => h) (Or.inl ⟨by kernel_rfl, ?_⟩) ?_ ?_
        rotate_left
        · intro w'
          go_simp
          with_reducible rfl
        rotate_left
        · simp only [Act.put, List.setIfInBounds_toArray, List.set_cons_zero, List.set_cons_succ, i64_w, i32_w]
          rfl
        refine done_ (by kernel_rfl) ?_
        clear hHeld
        clear hy0 hy1
        go_wp2
        go_roundg k1
        case measure => have := HK.out; omega
        case rel => exact ⟨i + 1, m, B0, b0, B1, b1, by rw [HW.out], ⟨by have := HK.out; have := HI1.out; have := HI0.out; omega⟩, HG2, HC5', HC4', GX, HB'⟩
    · have hie : i = l0.length := by omega
      have hr : m = r := by
        have h := HA.out
        rw [show l0.drop i.toNat = [] from by rw [hie]; simp, minGo] at h
        exact Option.some.inj h
      subst hr
      have c1 : decide (i < (l0.length : Int)) = false := decide_eq_false hlt
      clear hlt hie hi0 hi1
      go_wp2_with (refine wpList_store_row rfl 27 (.tmp 4) (.tmp 32) rfl gb4 #[.slice B0 m.f0.length b0, .slice B1 m.f1.length b1] rfl rfl 27 #[.slice none 0 0, .slice none 0 0] HC4.out (by kernel_rfl) rfl (by simp [Value.oneCell']) ?_)
      have HCF := aM (setRow_heap wr gb4 _ #[.slice B0 m.f0.length b0, .slice B1 m.f1.length b1] _ _ HC4.out)
      refine bodyPost_ret (results_cell_row rfl _ _ gb4 27 #[.slice B0 m.f0.length b0, .slice B1 m.f1.length b1] (0, 0) _ rfl HCF.out hu rfl (by kernel_rfl)) rfl ?_
      exact ⟨B0, b0, B1, b1, rfl, GX.out, below_setRow HB.out HG4.out _⟩
/-- What a row of rows' value is. -/
theorem S_sliceC {α : Type} {d : Kd α} {e base : Nat} {ok : Nat → Prop} {w : World} {v : Value} {xs : List α} (h : Kd.S d e w base ok v xs) : ∃ A c, v = .slice A xs.length c ∧ xs.length ≤ c ∧ Kd.F d w (fun k => base ≤ k) A xs.length xs ∧ ∀ a, A = some a → base ≤ a.block ∧ a.block < w.heap.size := by
 obtain ⟨A, c, rfl⟩ := Kd.R_slice (Kd.S_R h)
 have := Kd.R_reads' (Kd.S_R h)
 refine ⟨A, c, rfl, this.2.1, Kd.S_F (Kd.S_mono (Kd.S_bound h) (fun k hk => hk.2.1)), fun a ha => ?_⟩
 subst ha
 exact ⟨Kd.R_base (Kd.S_R h) _ rfl, Kd.R_lt (Kd.S_R h) _ rfl⟩
theorem SurfF.setRow {w w4 : World} {N g : Nat} {A0 A1 : Option Addr} {c0 c1 : Nat} {x y : List Int} (h : SurfF w (fun k => N ≤ k) A0 A1 c0 c1 x y) (hb : Below w.heap.size w w4) (hg : g < N) (cs : Array Value) : SurfC (w4.setRow g cs) A0 A1 c0 c1 x y := h _ (fun k hk hlt => (setRow_other w4 g k cs (by omega)).trans (hb.block k hlt))
theorem i_CanonOf.calls (k : Nat) (A0_0 : Option Addr) (c0_0 : Nat) (l0_0 : List Int) (A0_1 : Option Addr) (c0_1 : Nat) (l0_1 : List Int) (r1 r2 : List Int) (r3 : Bool) (w : World) (hs : SurfC w A0_0 A0_1 c0_0 c0_1 l0_0 l0_1) (h : i_CanonOf.f k l0_0 l0_1 = some (r1, r2, r3)) :
    Calls Try.prog 39 #[.agg #[.slice A0_0 l0_0.length c0_0, .slice A0_1 l0_1.length c0_1]] w fun e w' => ∃ B0 b0 B1 b1, e = .returned (.tuple #[.agg #[.slice B0 r1.length b0, .slice B1 r2.length b1], .bool r3]) ∧ SurfC w' B0 B1 b0 b1 r1 r2 ∧ Below w.heap.size w w' := by
  have hu := Try.underlying27
  have HS := aM hs
  clear hs
  unfold i_CanonOf.f at h
  obtain ⟨l, hl, h⟩ := oB h
  have HL := aM hl
  clear hl
  have H := aM h
  clear h
  go_enter Try.func39, Try.ntmps39
  have HQ : ∀ (W : World), Below w.heap.size w W → Calls Try.prog 51 #[.agg #[.slice A0_0 l0_0.length c0_0, .slice A0_1 l0_1.length c0_1]] W fun e w' => ∃ A c, e = .returned (.slice A l.length c) ∧ l.length ≤ c ∧ (Kd.F k27 w' (fun k => W.heap.size ≤ k) A l.length l ∧ ∀ a, A = some a → W.heap.size ≤ a.block ∧ a.block < w'.heap.size) ∧ Below W.heap.size W w' := fun W hW => by
    refine (i_namedFrom.calls k _ _ l0_0 _ _ l0_1 l W (HS.out.below hW).g0 HS.out.l0 (HS.out.below hW).g1 HS.out.l1 HL.out).mono ?_
    rintro e w' ⟨v, rfl, hv, hb⟩
    obtain ⟨A, c, rfl, hc, hC⟩ := S_sliceC hv
    exact ⟨A, c, rfl, hc, hC, hb⟩
  have HQ2 := aM HQ
  clear HQ
  by_cases hz : l = []
  · have h := H.out
    subst hz
    rw [if_pos (by simp), if_pos rfl] at h
    simp only [Option.some.injEq, Prod.mk.injEq] at h
    obtain ⟨rfl, rfl, rfl⟩ := h
    clear H HL
    go_wp2_with (first
      | ((with_reducible refine gate_dst (N := 1) rfl ?_); refine bEv (cs := #[.slice A0_0 l0_0.length c0_0, .slice A0_1 l0_1.length c0_1]) (t := 27) ?_; intro gb1 hg1 w1 hbox1 hb1; have BK1 := aM hbox1; have HB1 := aM hb1; clear hbox1 hb1 hg1)
      | ((with_reducible refine gate_dst (N := 2) rfl ?_); refine bEv (cs := #[.slice none 0 0, .slice none 0 0]) (t := 27) ?_; intro gb2 hg2 w2 hbox2 hb2; have BK2 := aM hbox2; have HB2 := aM (below_step HB1.out hb2); have HG2 := aM (show w.heap.size ≤ gb2 by rw [hg2]; exact below_size HB1.out); have BK12 := aM (blk_below BK1.out hb2); clear BK1 HB1; have hc10 : w2.cell? ⟨gb1, 0, none⟩ = some (.slice A0_0 l0_0.length c0_0) := (blk_cell BK12.out 0).trans rfl; have hc11 : w2.cell? ⟨gb1, 1, none⟩ = some (.slice A0_1 l0_1.length c0_1) := (blk_cell BK12.out 1).trans rfl; clear hbox2 hb2 hg2)
      | (go_at_call 51; refine (HQ2.out _ HB2.out).mono ?_; rintro e w3 ⟨A, c, rfl, hc, hC, hb⟩; have HB3 := aM (below_step HB2.out hb); have BK3 := aM (blk_below BK2.out hb); clear hc10 hc11 hb hc hC HB2 BK2)
      | (refine wpList_store_row rfl 27 (.tmp 2) (.tmp 10) rfl gb2 #[.slice none 0 0, .slice none 0 0] rfl rfl 27 #[.slice none 0 0, .slice none 0 0] BK3.out (by kernel_rfl) rfl (by simp [Value.oneCell']) ?_))
    have HCF := aM (setRow_heap w3 gb2 _ #[.slice none 0 0, .slice none 0 0] _ _ BK3.out)
    refine bodyPost_ret (results_ct rfl _ _ gb2 27 #[.slice none 0 0, .slice none 0 0] (0, 0) _ rfl HCF.out hu rfl (by kernel_rfl)) rfl ?_
    exact ⟨none, 0, none, 0, rfl, ⟨Nat.le_refl _, Kd.C_nil _ _, Nat.le_refl _, Kd.C_nil _ _⟩, below_setRow HB3.out HG2.out _⟩
  · have h := H.out
    by_cases hbig : l.length ≤ 1000
    · rw [if_pos hbig, if_neg hz] at h
      obtain ⟨s, hs, h⟩ := oB h
      simp only [Option.some.injEq, Prod.mk.injEq] at h
      obtain ⟨rfl, rfl, rfl⟩ := h
      have HM := aM hs
      clear hs H HL
      have hn : 0 < l.length := List.length_pos_iff.mpr hz
      have hn0 : decide ((l.length : Int) = 0) = false := decide_eq_false (by omega)
      have hn1 : ((l.length : Int) == 0) = false := by simpa using hz
      have HN := aM hn
      have HG := aM hbig
      have hn2 : (l.length = 0) = False := by simp; exact hz
      have hn3 : ((l.length : Int) = 0) = False := by simp; exact hz
      clear hn hbig hz
      go_wp2_with (first
        | ((with_reducible refine gate_dst (N := 1) rfl ?_); refine bEv (cs := #[.slice A0_0 l0_0.length c0_0, .slice A0_1 l0_1.length c0_1]) (t := 27) ?_; intro gb1 hg1 w1 hbox1 hb1; have BK1 := aM hbox1; have HB1 := aM hb1; clear hbox1 hb1 hg1)
        | ((with_reducible refine gate_dst (N := 2) rfl ?_); refine bEv (cs := #[.slice none 0 0, .slice none 0 0]) (t := 27) ?_; intro gb2 hg2 w2 hbox2 hb2; have BK2 := aM hbox2; have HB2 := aM (below_step HB1.out hb2); have HG2 := aM (show w.heap.size ≤ gb2 by rw [hg2]; exact below_size HB1.out); have BK12 := aM (blk_below BK1.out hb2); clear BK1 HB1; have hc10 : w2.cell? ⟨gb1, 0, none⟩ = some (.slice A0_0 l0_0.length c0_0) := (blk_cell BK12.out 0).trans rfl; have hc11 : w2.cell? ⟨gb1, 1, none⟩ = some (.slice A0_1 l0_1.length c0_1) := (blk_cell BK12.out 1).trans rfl; clear hbox2 hb2 hg2)
        | (go_at_call 51; refine (HQ2.out _ HB2.out).mono ?_; rintro e w3 ⟨A, c, rfl, hc, hC, hb⟩; have HB3 := aM (below_step HB2.out hb); have BK3 := aM (blk_below BK2.out hb); have HC3 := aM hC; clear hc10 hc11 hb hc hC HB2)
        | (go_at_call 52; refine (minf_calls k A c l s _ _ HC3.out.1 HC3.out.2 HN.out HG.out HM.out).mono ?_; rintro e w4 ⟨B0, b0, B1, b1, rfl, hS, hb⟩; have HB4 := aM (below_step HB3.out hb); have BK4 := aM (blk_below BK3.out hb); have HS4 := aM (SurfF.setRow hS hb (show gb2 < w2.heap.size from blk_lt BK2.out)); clear hb hS HB3 BK3)
        | (refine wpList_store_row rfl 27 (.tmp 2) (.tmp 12) rfl gb2 #[.slice B0 s.f0.length b0, .slice B1 s.f1.length b1] rfl rfl 27 #[.slice none 0 0, .slice none 0 0] BK4.out (by kernel_rfl) rfl (by simp [Value.oneCell']) ?_))
      have HCF := aM (setRow_heap w4 gb2 _ #[.slice B0 s.f0.length b0, .slice B1 s.f1.length b1] _ _ BK4.out)
      refine bodyPost_ret (results_ct rfl _ _ gb2 27 #[.slice B0 s.f0.length b0, .slice B1 s.f1.length b1] (0, 0) _ rfl HCF.out hu rfl (by kernel_rfl)) rfl ?_
      exact ⟨B0, b0, B1, b1, rfl, HS4.out _, below_setRow HB4.out HG2.out _⟩
    · rw [if_neg hbig] at h
      exact absurd h (by simp)

/-! ### slices_Equal_int_int: function 70 -/
def slices_Equal_int_int.l0 : Nat → List Int → List Int → Int → Int → Option (Bool)
 | 0, _, _, _, _ => none
 | k + 1, x0, x1, x12, x13 => if x13 < x12 then (if 0 ≤ x13 then (if x13 < (x0.length : Int) then (if x13 < (x1.length : Int) then (if (rd x0 x13) = (rd x1 x13) then (slices_Equal_int_int.l0 k x0 x1 x12 (wrap64 (x13 + 1))) else (some false)) else (none)) else (none)) else (none)) else (some true)
def slices_Equal_int_int.f (k : Nat) (l0 : List Int) (l1 : List Int) : Option (Bool) := if (l0.length : Int) = (l1.length : Int) then (slices_Equal_int_int.l0 k l0 l1 (l0.length : Int) 0) else (some false)
theorem slices_Equal_int_int.calls (k : Nat) (A0 : Option Addr) (c0 : Nat) (l0 : List Int) (A1 : Option Addr) (c1 : Nat) (l1 : List Int) (r : Bool) (w : World) (hr0 : Kd.C (Kd.int .i64) w A0 l0.length l0) (hc0 : l0.length ≤ c0) (hr1 : Kd.C (Kd.int .i64) w A1 l1.length l1) (hc1 : l1.length ≤ c1) (h : slices_Equal_int_int.f k l0 l1 = some r) :
  Calls Try.prog 70 #[.slice A0 l0.length c0, .slice A1 l1.length c1] w fun e w' => e = .returned (.bool r) ∧ Drawn0 w w' := by
 have HR0 := aM hr0
 have HC0 := aM hc0
 clear hr0 hc0
 have HR1 := aM hr1
 have HC1 := aM hc1
 clear hr1 hc1
 have H : (if (l0.length : Int) = (l1.length : Int) then (slices_Equal_int_int.l0 k l0 l1 (l0.length : Int) 0) else (some false)) = some r := h
 clear h
 by_cases c3 : (l0.length : Int) = (l1.length : Int)
 {
 rw [if_pos c3] at H
 have c3b0 : ((l0.length : Int) == (l1.length : Int)) = true := beq_iff_eq.mpr c3
 have c3b1 : ((l0.length : Int) != (l1.length : Int)) = false := bne_eq_false_iff_eq.mpr c3
 have c3b2 : (l0.length == l1.length) = true := by first | simpa using c3 | (simp at c3 ⊢; omega)
 clear c3
 have H' := aM H
 clear H
 go_enter Try.func70, Try.ntmps70
 go_wp2
 repeat (go_quiet (fail); try go_wp2)
 go_loopg [13] k (fun kq v13 w' => ∃ (x13_1 : Int), v13 = .int .i64 x13_1 ∧ Aside0 (slices_Equal_int_int.l0 kq l0 l1 (l0.length : Int) x13_1 = some r) ∧ Aside0 (kq ≤ k) ∧ Drawn0 w w')
 case atStart => exact ⟨(0), vX, H', ⟨Nat.le_refl _⟩, by repeat (first | exact Drawn0.refl _ | apply Drawn0.step)⟩
 case round =>
 clear H'
 try clear c1
 try clear c3
 try clear c3b0
 try clear c3b1
 try clear c3b2
 obtain ⟨x13_1, rfl, HA, HK1, ⟨m1, rfl⟩⟩ := hrel
 cases gk with
 | zero => exact absurd HA.out (by simp [slices_Equal_int_int.l0])
 | succ k1 =>
 have H := HA.out
 clear HA
 simp only [slices_Equal_int_int.l0] at H
 by_cases c4 : x13_1 < (l0.length : Int)
 {
 rw [if_pos c4] at H
 have c4b0 : decide (x13_1 < (l0.length : Int)) = true := decide_eq_true c4
 clear c4
 by_cases c5 : 0 ≤ x13_1
 {
 rw [if_pos c5] at H
 have c5b0 : decide (0 ≤ x13_1) = true := decide_eq_true c5
 clear c5
 by_cases c6 : x13_1 < (l0.length : Int)
 {
 rw [if_pos c6] at H
 have c6b0 : decide (x13_1 < (l0.length : Int)) = true := decide_eq_true c6
 clear c6
 by_cases c7 : x13_1 < (l1.length : Int)
 {
 rw [if_pos c7] at H
 have c7b0 : decide (x13_1 < (l1.length : Int)) = true := decide_eq_true c7
 clear c7
 by_cases c8 : (rd l0 x13_1) = (rd l1 x13_1)
 {
 rw [if_pos c8] at H
 have c8b0 : ((rd l0 x13_1) == (rd l1 x13_1)) = true := beq_iff_eq.mpr c8
 have c8b1 : ((rd l0 x13_1) != (rd l1 x13_1)) = false := bne_eq_false_iff_eq.mpr c8
 clear c8
 have H' := aM H
 clear H
 have p478 : 0 ≤ (x13_1 : Int) := dX
 have q478 : x13_1 < (l0.length : Int) := dX
 obtain ⟨ad478, e478, hx478_0⟩ := Kd.at_int HR0.out x13_1 p478 q478
 cases e478
 replace p478 := eq_true p478
 replace q478 := eq_true q478
 have p479 : 0 ≤ (x13_1 : Int) := dX
 have q479 : x13_1 < (l1.length : Int) := dX
 obtain ⟨ad479, e479, hx479_0⟩ := Kd.at_int HR1.out x13_1 p479 q479
 cases e479
 replace p479 := eq_true p479
 replace q479 := eq_true q479
 go_wp2
 repeat (go_quiet (fail); try go_wp2)
 go_roundg k1
 case measure => have := HK1.out; omega
 case rel => exact ⟨(wrap64 (x13_1 + 1)), vX, H', ⟨by have := HK1.out; omega⟩, by repeat (first | exact Drawn0.refl _ | apply Drawn0.step)⟩
 }
 {
 rw [if_neg c8] at H
 have c8b0 : ((rd l0 x13_1) == (rd l1 x13_1)) = false := beq_eq_false_iff_ne.mpr c8
 have c8b1 : ((rd l0 x13_1) != (rd l1 x13_1)) = true := bne_iff_ne.mpr c8
 obtain rfl := Option.some.inj H
 have p478 : 0 ≤ (x13_1 : Int) := dX
 have q478 : x13_1 < (l0.length : Int) := dX
 obtain ⟨ad478, e478, hx478_0⟩ := Kd.at_int HR0.out x13_1 p478 q478
 cases e478
 replace p478 := eq_true p478
 replace q478 := eq_true q478
 have p479 : 0 ≤ (x13_1 : Int) := dX
 have q479 : x13_1 < (l1.length : Int) := dX
 obtain ⟨ad479, e479, hx479_0⟩ := Kd.at_int HR1.out x13_1 p479 q479
 cases e479
 replace p479 := eq_true p479
 replace q479 := eq_true q479
 go_wp2
 repeat (go_quiet (fail); try go_wp2)
 go_ret
 exact ⟨by first | rfl | (simp; done) | (simp [*]; done), by repeat (first | exact Drawn0.refl _ | apply Drawn0.step)⟩
 }
 }
 {
 rw [if_neg c7] at H
 exact absurd H (by simp)
 }
 }
 {
 rw [if_neg c6] at H
 exact absurd H (by simp)
 }
 }
 {
 rw [if_neg c5] at H
 exact absurd H (by simp)
 }
 }
 {
 rw [if_neg c4] at H
 have c4b0 : decide (x13_1 < (l0.length : Int)) = false := decide_eq_false c4
 clear c4
 obtain rfl := Option.some.inj H
 go_wp2
 repeat (go_quiet (fail); try go_wp2)
 go_ret
 exact ⟨by first | rfl | (simp; done) | (simp [*]; done), by repeat (first | exact Drawn0.refl _ | apply Drawn0.step)⟩
 }
 }
 {
 rw [if_neg c3] at H
 have c3b0 : ((l0.length : Int) == (l1.length : Int)) = false := beq_eq_false_iff_ne.mpr c3
 have c3b1 : ((l0.length : Int) != (l1.length : Int)) = true := bne_iff_ne.mpr c3
 have c3b2 : (l0.length == l1.length) = false := by first | simpa using c3 | (simp at c3 ⊢; omega)
 obtain rfl := Option.some.inj H
 go_enter Try.func70, Try.ntmps70
 go_wp2
 repeat (go_quiet (fail); try go_wp2)
 go_ret
 exact ⟨by first | rfl | (simp; done) | (simp [*]; done), by repeat (first | exact Drawn0.refl _ | apply Drawn0.step)⟩
 }

/-! ### i_SameList: function 54 -/
def i_SameList.f (k : Nat) (l0 : List Int) (l1 : List Int) : Option (Bool) := (slices_Equal_int_int.f k l0 l1).bind fun t480 => (some t480)
theorem i_SameList.calls (k : Nat) (A0 : Option Addr) (c0 : Nat) (l0 : List Int) (A1 : Option Addr) (c1 : Nat) (l1 : List Int) (r : Bool) (w : World) (hr0 : Kd.C (Kd.int .i64) w A0 l0.length l0) (hc0 : l0.length ≤ c0) (hr1 : Kd.C (Kd.int .i64) w A1 l1.length l1) (hc1 : l1.length ≤ c1) (h : i_SameList.f k l0 l1 = some r) :
  Calls Try.prog 54 #[.slice A0 l0.length c0, .slice A1 l1.length c1] w fun e w' => e = .returned (.bool r) ∧ Drawn0 w w' := by
 have HR0 := aM hr0
 have HC0 := aM hc0
 clear hr0 hc0
 have HR1 := aM hr1
 have HC1 := aM hc1
 clear hr1 hc1
 have H : ((slices_Equal_int_int.f k l0 l1).bind fun t480 => (some t480)) = some r := h
 clear h
 replace H := oB H
 obtain ⟨t480, A30, H⟩ := H
 replace H : (some t480) = some r := H
 have A3 := aM A30
 clear A30
 obtain rfl := Option.some.inj H
 go_enter Try.func54, Try.ntmps54
 go_wp2_with (first | ((with_reducible refine gate_callee (f := 70) rfl ?_); refine goesL_ (some 7) rfl rfl Try.func70 (by kernel_rfl) rfl #[.slice A0 l0.length c0, .slice A1 l1.length c1] rfl (by (try simp only [List.map_toArray, List.map_cons, List.map_nil]); first | done | rfl | (simp only [List.length_drop, List.length_take]; rfl)) ?_; (with_reducible refine (slices_Equal_int_int.calls k _ _ l0 _ _ l1 t480 _ ?side1 ?side2 ?side3 ?side4 A3.out).mono ?_); (case side1 => exact cX HR0.out); (case side2 => exact HC0.out); (case side3 => exact cX HR1.out); (case side4 => exact HC1.out); rintro e w' ⟨rfl, ⟨nd, rfl⟩⟩; refine ⟨_, rfl, ?_⟩))
 go_ret
 exact ⟨by first | rfl | (simp; done) | (simp [*]; done), by repeat (first | exact Drawn0.refl _ | apply Drawn0.step)⟩

/-! ### i_SameSurface: function 40 -/
def i_SameSurface.f (k : Nat) (l0_0 : List Int) (l0_1 : List Int) (l1_0 : List Int) (l1_1 : List Int) : Option (Bool) := (i_SameList.f k l0_0 l1_0).bind fun t483 => (if t483 = true then ((i_SameList.f k l0_1 l1_1).bind fun t484 => (some t484)) else (some false))
theorem i_SameSurface.calls (k : Nat) (A0_0 : Option Addr) (c0_0 : Nat) (l0_0 : List Int) (A0_1 : Option Addr) (c0_1 : Nat) (l0_1 : List Int) (A1_0 : Option Addr) (c1_0 : Nat) (l1_0 : List Int) (A1_1 : Option Addr) (c1_1 : Nat) (l1_1 : List Int) (r : Bool) (w : World) (hr0_0 : Kd.C (Kd.int .i64) w A0_0 l0_0.length l0_0) (hc0_0 : l0_0.length ≤ c0_0) (hr0_1 : Kd.C (Kd.int .i64) w A0_1 l0_1.length l0_1) (hc0_1 : l0_1.length ≤ c0_1) (hr1_0 : Kd.C (Kd.int .i64) w A1_0 l1_0.length l1_0) (hc1_0 : l1_0.length ≤ c1_0) (hr1_1 : Kd.C (Kd.int .i64) w A1_1 l1_1.length l1_1) (hc1_1 : l1_1.length ≤ c1_1) (h : i_SameSurface.f k l0_0 l0_1 l1_0 l1_1 = some r) :
  Calls Try.prog 40 #[.agg #[.slice A0_0 l0_0.length c0_0, .slice A0_1 l0_1.length c0_1], .agg #[.slice A1_0 l1_0.length c1_0, .slice A1_1 l1_1.length c1_1]] w fun e w' => e = .returned (.bool r) ∧ Below w.heap.size w w' := by
 have hu27 := Try.underlying27
 have HR0_0 := aM hr0_0
 have HC0_0 := aM hc0_0
 clear hr0_0 hc0_0
 have HR0_1 := aM hr0_1
 have HC0_1 := aM hc0_1
 clear hr0_1 hc0_1
 have HR1_0 := aM hr1_0
 have HC1_0 := aM hc1_0
 clear hr1_0 hc1_0
 have HR1_1 := aM hr1_1
 have HC1_1 := aM hc1_1
 clear hr1_1 hc1_1
 have HB := aM (Below.refl w.heap.size w)
 have H : ((i_SameList.f k l0_0 l1_0).bind fun t483 => (if t483 = true then ((i_SameList.f k l0_1 l1_1).bind fun t484 => (some t484)) else (some false))) = some r := h
 clear h
 replace H := oB H
 obtain ⟨t483, A30, H⟩ := H
 replace H : (if t483 = true then ((i_SameList.f k l0_1 l1_1).bind fun t484 => (some t484)) else (some false)) = some r := H
 have A3 := aM A30
 clear A30
 by_cases c4 : t483 = true
 {
 subst c4
 have H1 : ((i_SameList.f k l0_1 l1_1).bind fun t484 => (some t484)) = some r := by rw [if_pos rfl] at H; exact H
 clear H
 have H := H1
 clear H1
 replace H := oB H
 obtain ⟨t484, A50, H⟩ := H
 replace H : (some t484) = some r := H
 have A5 := aM A50
 clear A50
 obtain rfl := Option.some.inj H
 go_enter Try.func40, Try.ntmps40
 go_wp2_with (first | ((with_reducible refine gate_dst (N := 2) rfl ?_); refine bEv (cs := #[.slice A0_0 l0_0.length c0_0, .slice A0_1 l0_1.length c0_1]) (t := 27) ?_; intro gb481 hg w6 hbox hb; have BK481 := aM (hbox); have GW481 := aM ((szX (below_size (bX HB.out)) hg : w.heap.size ≤ gb481)); have GE481 := aM ((szX (below_size (bX HB.out)) hg : w.heap.size ≤ gb481)); replace HB := aM (below_step (bX HB.out) hb); clear hb hbox hg) | ((with_reducible refine gate_dst (N := 3) rfl ?_); refine bEv (cs := #[.slice A1_0 l1_0.length c1_0, .slice A1_1 l1_1.length c1_1]) (t := 27) ?_; intro gb482 hg w7 hbox hb; have BK482 := aM (hbox); have GW482 := aM ((szX (below_size (bX1 HB.out GE481.out)) hg : w.heap.size ≤ gb482)); have GE482 := aM ((szX (below_size (bX1 HB.out GE481.out)) hg : w.heap.size ≤ gb482)); replace HB := aM (below_step (bX1 HB.out GE481.out) hb); have NB481_482 := aM (neX BK481.out hg); have NB482_481 := aM (nfX BK481.out hg); replace BK481 := aM (bbX BK481.out hb); clear hb hbox hg; have hnb8 := NB481_482.out; have hnc8 := NB482_481.out; have hcz9_0 := cz20 BK481.out; have hcz9_1 := cz21 BK481.out; have hfz9_0 := blk_frozen BK481.out 0; have hfz9_1 := blk_frozen BK481.out 1; have hcz10_0 : w7.cell? ⟨gb482, 0, none⟩ = some (.slice A1_0 l1_0.length c1_0) := (blk_cell BK482.out 0).trans rfl; have hcz10_1 : w7.cell? ⟨gb482, 1, none⟩ = some (.slice A1_1 l1_1.length c1_1) := (blk_cell BK482.out 1).trans rfl; have hfz10_0 := blk_frozen BK482.out 0; have hfz10_1 := blk_frozen BK482.out 1) | ((with_reducible refine gate_callee (f := 54) rfl ?_); refine goesL_ (some 9) rfl rfl Try.func54 (by kernel_rfl) rfl #[.slice A0_0 l0_0.length c0_0, .slice A1_0 l1_0.length c1_0] rfl aX ?_; (with_reducible refine (i_SameList.calls k _ _ l0_0 _ _ l1_0 true _ ?side1 ?side2 ?side3 ?side4 A3.out).mono ?_); (case side1 => exact cX (Kd.C_below HR0_0.out HB.out)); (case side2 => exact HC0_0.out); (case side3 => exact cX (Kd.C_below HR1_0.out HB.out)); (case side4 => exact HC1_0.out); rintro e w' ⟨rfl, ⟨nd, rfl⟩⟩; refine ⟨_, rfl, ?_⟩) | (go_at_call 54; (with_reducible refine (i_SameList.calls k _ _ l0_1 _ _ l1_1 t484 _ ?side1 ?side2 ?side3 ?side4 A5.out).mono ?_); (case side1 => exact cX (Kd.C_below HR0_1.out (bX2 HB.out GE481.out GE482.out))); (case side2 => exact HC0_1.out); (case side3 => exact cX (Kd.C_below HR1_1.out (bX2 HB.out GE481.out GE482.out))); (case side4 => exact HC1_1.out); rintro e w' ⟨rfl, ⟨nd, rfl⟩⟩))
 go_ret
 exact ⟨eX, bX2 HB.out GE481.out GE482.out⟩
 }
 {
 replace c4 := Bool.eq_false_iff.mpr c4
 subst c4
 have H1 : (some false) = some r := by rw [if_neg (show ¬ (false = true) by decide)] at H; exact H
 clear H
 have H := H1
 clear H1
 obtain rfl := Option.some.inj H
 go_enter Try.func40, Try.ntmps40
 go_wp2_with (first | ((with_reducible refine gate_dst (N := 2) rfl ?_); refine bEv (cs := #[.slice A0_0 l0_0.length c0_0, .slice A0_1 l0_1.length c0_1]) (t := 27) ?_; intro gb481 hg w11 hbox hb; have BK481 := aM (hbox); have GW481 := aM ((szX (below_size (bX HB.out)) hg : w.heap.size ≤ gb481)); have GE481 := aM ((szX (below_size (bX HB.out)) hg : w.heap.size ≤ gb481)); replace HB := aM (below_step (bX HB.out) hb); clear hb hbox hg) | ((with_reducible refine gate_dst (N := 3) rfl ?_); refine bEv (cs := #[.slice A1_0 l1_0.length c1_0, .slice A1_1 l1_1.length c1_1]) (t := 27) ?_; intro gb482 hg w12 hbox hb; have BK482 := aM (hbox); have GW482 := aM ((szX (below_size (bX1 HB.out GE481.out)) hg : w.heap.size ≤ gb482)); have GE482 := aM ((szX (below_size (bX1 HB.out GE481.out)) hg : w.heap.size ≤ gb482)); replace HB := aM (below_step (bX1 HB.out GE481.out) hb); have NB481_482 := aM (neX BK481.out hg); have NB482_481 := aM (nfX BK481.out hg); replace BK481 := aM (bbX BK481.out hb); clear hb hbox hg; have hnb13 := NB481_482.out; have hnc13 := NB482_481.out; have hcz14_0 := cz20 BK481.out; have hcz14_1 := cz21 BK481.out; have hfz14_0 := blk_frozen BK481.out 0; have hfz14_1 := blk_frozen BK481.out 1; have hcz15_0 : w12.cell? ⟨gb482, 0, none⟩ = some (.slice A1_0 l1_0.length c1_0) := (blk_cell BK482.out 0).trans rfl; have hcz15_1 : w12.cell? ⟨gb482, 1, none⟩ = some (.slice A1_1 l1_1.length c1_1) := (blk_cell BK482.out 1).trans rfl; have hfz15_0 := blk_frozen BK482.out 0; have hfz15_1 := blk_frozen BK482.out 1) | ((with_reducible refine gate_callee (f := 54) rfl ?_); refine goesL_ (some 9) rfl rfl Try.func54 (by kernel_rfl) rfl #[.slice A0_0 l0_0.length c0_0, .slice A1_0 l1_0.length c1_0] rfl aX ?_; (with_reducible refine (i_SameList.calls k _ _ l0_0 _ _ l1_0 false _ ?side1 ?side2 ?side3 ?side4 A3.out).mono ?_); (case side1 => exact cX (Kd.C_below HR0_0.out HB.out)); (case side2 => exact HC0_0.out); (case side3 => exact cX (Kd.C_below HR1_0.out HB.out)); (case side4 => exact HC1_0.out); rintro e w' ⟨rfl, ⟨nd, rfl⟩⟩; refine ⟨_, rfl, ?_⟩))
 go_ret
 exact ⟨eX, bX2 HB.out GE481.out GE482.out⟩
 }

/-! ### i_AreIsomorphic: function 31 -/
/-! by hand -/
def i_AreIsomorphic.f (k : Nat) (l0_0 l0_1 l1_0 l1_1 : List Int) : Option Bool := (i_CanonOf.f k l0_0 l0_1).bind fun x => (i_CanonOf.f k l1_0 l1_1).bind fun y => if x.2.2 = true then (if y.2.2 = true then i_SameSurface.f k x.1 x.2.1 y.1 y.2.1 else some false) else some false
theorem i_AreIsomorphic.calls (k : Nat) (A0_0 : Option Addr) (c0_0 : Nat) (l0_0 : List Int) (A0_1 : Option Addr) (c0_1 : Nat) (l0_1 : List Int) (A1_0 : Option Addr) (c1_0 : Nat) (l1_0 : List Int) (A1_1 : Option Addr) (c1_1 : Nat) (l1_1 : List Int) (r : Bool) (w : World) (hr0_0 : Kd.C (Kd.int .i64) w A0_0 l0_0.length l0_0) (hc0_0 : l0_0.length ≤ c0_0) (hr0_1 : Kd.C (Kd.int .i64) w A0_1 l0_1.length l0_1) (hc0_1 : l0_1.length ≤ c0_1) (hr1_0 : Kd.C (Kd.int .i64) w A1_0 l1_0.length l1_0) (hc1_0 : l1_0.length ≤ c1_0) (hr1_1 : Kd.C (Kd.int .i64) w A1_1 l1_1.length l1_1) (hc1_1 : l1_1.length ≤ c1_1) (h : i_AreIsomorphic.f k l0_0 l0_1 l1_0 l1_1 = some r) :
    Calls Try.prog 31 #[.agg #[.slice A0_0 l0_0.length c0_0, .slice A0_1 l0_1.length c0_1], .agg #[.slice A1_0 l1_0.length c1_0, .slice A1_1 l1_1.length c1_1]] w fun e w' => e = .returned (.bool r) ∧ Below w.heap.size w w' := by
 have hu := Try.underlying27
 have HS : Aside0 (SurfC w A0_0 A0_1 c0_0 c0_1 l0_0 l0_1) := ⟨⟨hc0_0, hr0_0, hc0_1, hr0_1⟩⟩
 have HT : Aside0 (SurfC w A1_0 A1_1 c1_0 c1_1 l1_0 l1_1) := ⟨⟨hc1_0, hr1_0, hc1_1, hr1_1⟩⟩
 clear hr0_0 hc0_0 hr0_1 hc0_1 hr1_0 hc1_0 hr1_1 hc1_1
 unfold i_AreIsomorphic.f at h
 obtain ⟨⟨q1, q2, q3⟩, hq, h⟩ := oB h
 obtain ⟨⟨p1, p2, p3⟩, hp, h⟩ := oB h
 have HQ := aM hq
 have HP := aM hp
 clear hq hp
 cases q3 with
 | true =>
  cases p3 with
  | true =>
   have HA := aM (show i_SameSurface.f k q1 q2 p1 p2 = some r from h)
   clear h
   go_enter Try.func31, Try.ntmps31
   go_wp2_with (first
    | ((with_reducible refine gate_dst (N := 2) rfl ?_); refine bEv (cs := #[.slice A0_0 l0_0.length c0_0, .slice A0_1 l0_1.length c0_1]) (t := 27) ?_; intro gb2 hg2 w1 hbox hb; have BK2 := aM hbox; have HB1 := aM hb; have HG2 := aM hg2; clear hbox hb hg2)
    | ((with_reducible refine gate_dst (N := 3) rfl ?_); refine bEv (cs := #[.slice A1_0 l1_0.length c1_0, .slice A1_1 l1_1.length c1_1]) (t := 27) ?_; intro gb3 hg3 w2 hbox hb; have HB2 := aM (below_step HB1.out hb); have BK22 := aM (blk_below BK2.out hb); have BK3 := aM hbox; have HNE23 := aM (show gb2 ≠ gb3 by have := blk_lt BK2.out; omega); clear hbox hb hg3 BK2 HB1; have hcgb20 : (w2).cell? ⟨gb2, 0, none⟩ = some (.slice A0_0 l0_0.length c0_0) := (blk_cell BK22.out 0).trans rfl; have hcgb21 : (w2).cell? ⟨gb2, 1, none⟩ = some (.slice A0_1 l0_1.length c0_1) := (blk_cell BK22.out 1).trans rfl; skip)
    | (go_at_call 39; (refine (i_CanonOf.calls k _ _ l0_0 _ _ l0_1 q1 q2 _ w2 (HS.out.below HB2.out) HQ.out).mono ?_); rintro e w3 ⟨B0, b0, B1, b1, rfl, hS, hb⟩; have HB3 := aM (below_step HB2.out hb); have BK33 := aM (blk_below BK3.out hb); have HS3 := aM hS; clear hcgb20 hcgb21 hb hS BK3 BK22 HB2)
    | ((with_reducible refine gate_dst (N := 5) rfl ?_); refine bEv (cs := #[.slice none 0 0, .slice none 0 0]) (t := 27) ?_; intro gb5 hg5 w4 hbox hb; have BK5 := aM hbox; have HB4 := aM (below_step HB3.out hb); have HG5 := aM (show w.heap.size ≤ gb5 by rw [hg5]; exact below_size HB3.out); have BK34 := aM (blk_below BK33.out hb); have HNE := aM (show gb3 ≠ gb5 by have := blk_lt BK33.out; omega); have HG35 := aM (show w3.heap.size ≤ gb5 by omega); have HB34 := aM hb; clear hbox hb hg5 BK33 HB3)
    | (refine wpList_store_row rfl 27 (.tmp 5) (.tmp 12) rfl gb5 #[.slice B0 q1.length b0, .slice B1 q2.length b1] rfl rfl 27 #[.slice none 0 0, .slice none 0 0] BK5.out (by kernel_rfl) rfl (by simp [Value.oneCell']) ?_; have BK35 := aM ((setRow_other w4 gb5 gb3 #[.slice B0 q1.length b0, .slice B1 q2.length b1] HNE.out).trans BK34.out); have HB5 := aM (below_setRow HB4.out HG5.out #[.slice B0 q1.length b0, .slice B1 q2.length b1]); have HC5 := aM (setRow_heap w4 gb5 _ #[.slice B0 q1.length b0, .slice B1 q2.length b1] _ _ BK5.out); have HS5 := aM (HS3.out.below (below_setRow HB34.out HG35.out #[.slice B0 q1.length b0, .slice B1 q2.length b1])); clear BK34 HB4 BK5; have hcgb30 : (w4.setRow gb5 #[.slice B0 q1.length b0, .slice B1 q2.length b1]).cell? ⟨gb3, 0, none⟩ = some (.slice A1_0 l1_0.length c1_0) := (blk_cell BK35.out 0).trans rfl; have hcgb31 : (w4.setRow gb5 #[.slice B0 q1.length b0, .slice B1 q2.length b1]).cell? ⟨gb3, 1, none⟩ = some (.slice A1_1 l1_1.length c1_1) := (blk_cell BK35.out 1).trans rfl;  skip)
    | (go_at_call 39; (refine (i_CanonOf.calls k _ _ l1_0 _ _ l1_1 p1 p2 _ (w4.setRow gb5 #[.slice B0 q1.length b0, .slice B1 q2.length b1]) (HT.out.below HB5.out) HP.out).mono ?_); rintro e w6 ⟨D0, d0, D1, d1, rfl, hS, hb⟩; have HB6 := aM (below_step HB5.out hb); have HC6 := aM (blk_below HC5.out hb); have HS6 := aM (HS5.out.below hb); have HT6 := aM hS; clear hcgb30 hcgb31 hb hS BK35 HB5 HC5 HS5)
    | ((with_reducible refine gate_dst (N := 7) rfl ?_); refine bEv (cs := #[.slice none 0 0, .slice none 0 0]) (t := 27) ?_; intro gb7 hg7 w7 hbox hb; have BK7 := aM hbox; have HB7 := aM (below_step HB6.out hb); have HG7 := aM (show w.heap.size ≤ gb7 by rw [hg7]; exact below_size HB6.out); have HC7 := aM (blk_below HC6.out hb); have HNE7 := aM (show gb7 ≠ gb5 by have := blk_lt HC6.out; omega); have HG67 := aM (show w6.heap.size ≤ gb7 by omega); have HB67 := aM hb; clear hbox hb hg7 HC6 HB6)
    | (refine wpList_store_row rfl 27 (.tmp 7) (.tmp 17) rfl gb7 #[.slice D0 p1.length d0, .slice D1 p2.length d1] rfl rfl 27 #[.slice none 0 0, .slice none 0 0] BK7.out (by kernel_rfl) rfl (by simp [Value.oneCell']) ?_; have HD9 := aM (setRow_heap w7 gb7 _ #[.slice D0 p1.length d0, .slice D1 p2.length d1] _ _ BK7.out); have HC9 := aM ((setRow_other w7 gb7 gb5 #[.slice D0 p1.length d0, .slice D1 p2.length d1] HNE7.out.symm).trans HC7.out); have HB9 := aM (below_setRow HB7.out HG7.out #[.slice D0 p1.length d0, .slice D1 p2.length d1]); have HS9 := aM (HS6.out.below (below_setRow HB67.out HG67.out #[.slice D0 p1.length d0, .slice D1 p2.length d1])); have HT9 := aM (HT6.out.below (below_setRow HB67.out HG67.out #[.slice D0 p1.length d0, .slice D1 p2.length d1])); clear BK7 HC7 HB7; have hcgb50 : (w7.setRow gb7 #[.slice D0 p1.length d0, .slice D1 p2.length d1]).cell? ⟨gb5, 0, none⟩ = some (.slice B0 q1.length b0) := (blk_cell HC9.out 0).trans rfl; have hcgb51 : (w7.setRow gb7 #[.slice D0 p1.length d0, .slice D1 p2.length d1]).cell? ⟨gb5, 1, none⟩ = some (.slice B1 q2.length b1) := (blk_cell HC9.out 1).trans rfl;  have hcgb70 : (w7.setRow gb7 #[.slice D0 p1.length d0, .slice D1 p2.length d1]).cell? ⟨gb7, 0, none⟩ = some (.slice D0 p1.length d0) := (blk_cell HD9.out 0).trans rfl; have hcgb71 : (w7.setRow gb7 #[.slice D0 p1.length d0, .slice D1 p2.length d1]).cell? ⟨gb7, 1, none⟩ = some (.slice D1 p2.length d1) := (blk_cell HD9.out 1).trans rfl;  skip)
    | (go_at_call 40; (refine (i_SameSurface.calls k B0 b0 q1 B1 b1 q2 D0 d0 p1 D1 d1 p2 r (w7.setRow gb7 #[.slice D0 p1.length d0, .slice D1 p2.length d1]) HS9.out.g0 HS9.out.l0 HS9.out.g1 HS9.out.l1 HT9.out.g0 HT9.out.l0 HT9.out.g1 HT9.out.l1 HA.out).mono ?_); rintro e w8 ⟨rfl, hb⟩; have HBE := aM (below_step HB9.out hb); clear hcgb50 hcgb51 hcgb70 hcgb71 hb))
   go_ret
   exact ⟨rfl, HBE.out⟩
  | false =>
  have hr : r = false := (Option.some.inj h).symm
  clear h
  subst hr
  go_enter Try.func31, Try.ntmps31
  go_wp2_with (first
   | ((with_reducible refine gate_dst (N := 2) rfl ?_); refine bEv (cs := #[.slice A0_0 l0_0.length c0_0, .slice A0_1 l0_1.length c0_1]) (t := 27) ?_; intro gb2 hg2 w1 hbox hb; have BK2 := aM hbox; have HB1 := aM hb; have HG2 := aM hg2; clear hbox hb hg2)
   | ((with_reducible refine gate_dst (N := 3) rfl ?_); refine bEv (cs := #[.slice A1_0 l1_0.length c1_0, .slice A1_1 l1_1.length c1_1]) (t := 27) ?_; intro gb3 hg3 w2 hbox hb; have HB2 := aM (below_step HB1.out hb); have BK22 := aM (blk_below BK2.out hb); have BK3 := aM hbox; have HNE23 := aM (show gb2 ≠ gb3 by have := blk_lt BK2.out; omega); clear hbox hb hg3 BK2 HB1; have hcgb20 : (w2).cell? ⟨gb2, 0, none⟩ = some (.slice A0_0 l0_0.length c0_0) := (blk_cell BK22.out 0).trans rfl; have hcgb21 : (w2).cell? ⟨gb2, 1, none⟩ = some (.slice A0_1 l0_1.length c0_1) := (blk_cell BK22.out 1).trans rfl; skip)
   | (go_at_call 39; (refine (i_CanonOf.calls k _ _ l0_0 _ _ l0_1 q1 q2 _ w2 (HS.out.below HB2.out) HQ.out).mono ?_); rintro e w3 ⟨B0, b0, B1, b1, rfl, hS, hb⟩; have HB3 := aM (below_step HB2.out hb); have BK33 := aM (blk_below BK3.out hb); have HS3 := aM hS; clear hcgb20 hcgb21 hb hS BK3 BK22 HB2)
   | ((with_reducible refine gate_dst (N := 5) rfl ?_); refine bEv (cs := #[.slice none 0 0, .slice none 0 0]) (t := 27) ?_; intro gb5 hg5 w4 hbox hb; have BK5 := aM hbox; have HB4 := aM (below_step HB3.out hb); have HG5 := aM (show w.heap.size ≤ gb5 by rw [hg5]; exact below_size HB3.out); have BK34 := aM (blk_below BK33.out hb); have HNE := aM (show gb3 ≠ gb5 by have := blk_lt BK33.out; omega); have HG35 := aM (show w3.heap.size ≤ gb5 by omega); have HB34 := aM hb; clear hbox hb hg5 BK33 HB3)
   | (refine wpList_store_row rfl 27 (.tmp 5) (.tmp 12) rfl gb5 #[.slice B0 q1.length b0, .slice B1 q2.length b1] rfl rfl 27 #[.slice none 0 0, .slice none 0 0] BK5.out (by kernel_rfl) rfl (by simp [Value.oneCell']) ?_; have BK35 := aM ((setRow_other w4 gb5 gb3 #[.slice B0 q1.length b0, .slice B1 q2.length b1] HNE.out).trans BK34.out); have HB5 := aM (below_setRow HB4.out HG5.out #[.slice B0 q1.length b0, .slice B1 q2.length b1]); have HC5 := aM (setRow_heap w4 gb5 _ #[.slice B0 q1.length b0, .slice B1 q2.length b1] _ _ BK5.out); have HS5 := aM (HS3.out.below (below_setRow HB34.out HG35.out #[.slice B0 q1.length b0, .slice B1 q2.length b1])); clear BK34 HB4 BK5; have hcgb30 : (w4.setRow gb5 #[.slice B0 q1.length b0, .slice B1 q2.length b1]).cell? ⟨gb3, 0, none⟩ = some (.slice A1_0 l1_0.length c1_0) := (blk_cell BK35.out 0).trans rfl; have hcgb31 : (w4.setRow gb5 #[.slice B0 q1.length b0, .slice B1 q2.length b1]).cell? ⟨gb3, 1, none⟩ = some (.slice A1_1 l1_1.length c1_1) := (blk_cell BK35.out 1).trans rfl;  skip)
   | (go_at_call 39; (refine (i_CanonOf.calls k _ _ l1_0 _ _ l1_1 p1 p2 _ (w4.setRow gb5 #[.slice B0 q1.length b0, .slice B1 q2.length b1]) (HT.out.below HB5.out) HP.out).mono ?_); rintro e w6 ⟨D0, d0, D1, d1, rfl, hS, hb⟩; have HB6 := aM (below_step HB5.out hb); have HC6 := aM (blk_below HC5.out hb); have HS6 := aM (HS5.out.below hb); have HT6 := aM hS; clear hcgb30 hcgb31 hb hS BK35 HB5 HC5 HS5)
   | ((with_reducible refine gate_dst (N := 7) rfl ?_); refine bEv (cs := #[.slice none 0 0, .slice none 0 0]) (t := 27) ?_; intro gb7 hg7 w7 hbox hb; have BK7 := aM hbox; have HB7 := aM (below_step HB6.out hb); have HG7 := aM (show w.heap.size ≤ gb7 by rw [hg7]; exact below_size HB6.out); have HC7 := aM (blk_below HC6.out hb); have HNE7 := aM (show gb7 ≠ gb5 by have := blk_lt HC6.out; omega); have HG67 := aM (show w6.heap.size ≤ gb7 by omega); have HB67 := aM hb; clear hbox hb hg7 HC6 HB6)
   | (refine wpList_store_row rfl 27 (.tmp 7) (.tmp 17) rfl gb7 #[.slice D0 p1.length d0, .slice D1 p2.length d1] rfl rfl 27 #[.slice none 0 0, .slice none 0 0] BK7.out (by kernel_rfl) rfl (by simp [Value.oneCell']) ?_; have HD9 := aM (setRow_heap w7 gb7 _ #[.slice D0 p1.length d0, .slice D1 p2.length d1] _ _ BK7.out); have HC9 := aM ((setRow_other w7 gb7 gb5 #[.slice D0 p1.length d0, .slice D1 p2.length d1] HNE7.out.symm).trans HC7.out); have HB9 := aM (below_setRow HB7.out HG7.out #[.slice D0 p1.length d0, .slice D1 p2.length d1]); have HS9 := aM (HS6.out.below (below_setRow HB67.out HG67.out #[.slice D0 p1.length d0, .slice D1 p2.length d1])); have HT9 := aM (HT6.out.below (below_setRow HB67.out HG67.out #[.slice D0 p1.length d0, .slice D1 p2.length d1])); clear BK7 HC7 HB7; have hcgb50 : (w7.setRow gb7 #[.slice D0 p1.length d0, .slice D1 p2.length d1]).cell? ⟨gb5, 0, none⟩ = some (.slice B0 q1.length b0) := (blk_cell HC9.out 0).trans rfl; have hcgb51 : (w7.setRow gb7 #[.slice D0 p1.length d0, .slice D1 p2.length d1]).cell? ⟨gb5, 1, none⟩ = some (.slice B1 q2.length b1) := (blk_cell HC9.out 1).trans rfl;  have hcgb70 : (w7.setRow gb7 #[.slice D0 p1.length d0, .slice D1 p2.length d1]).cell? ⟨gb7, 0, none⟩ = some (.slice D0 p1.length d0) := (blk_cell HD9.out 0).trans rfl; have hcgb71 : (w7.setRow gb7 #[.slice D0 p1.length d0, .slice D1 p2.length d1]).cell? ⟨gb7, 1, none⟩ = some (.slice D1 p2.length d1) := (blk_cell HD9.out 1).trans rfl;  skip))
  go_ret
  exact ⟨rfl, HB9.out⟩
 | false =>
 have hr : r = false := (Option.some.inj h).symm
 clear h
 subst hr
 go_enter Try.func31, Try.ntmps31
 go_wp2_with (first
  | ((with_reducible refine gate_dst (N := 2) rfl ?_); refine bEv (cs := #[.slice A0_0 l0_0.length c0_0, .slice A0_1 l0_1.length c0_1]) (t := 27) ?_; intro gb2 hg2 w1 hbox hb; have BK2 := aM hbox; have HB1 := aM hb; have HG2 := aM hg2; clear hbox hb hg2)
  | ((with_reducible refine gate_dst (N := 3) rfl ?_); refine bEv (cs := #[.slice A1_0 l1_0.length c1_0, .slice A1_1 l1_1.length c1_1]) (t := 27) ?_; intro gb3 hg3 w2 hbox hb; have HB2 := aM (below_step HB1.out hb); have BK22 := aM (blk_below BK2.out hb); have BK3 := aM hbox; have HNE23 := aM (show gb2 ≠ gb3 by have := blk_lt BK2.out; omega); clear hbox hb hg3 BK2 HB1; have hcgb20 : (w2).cell? ⟨gb2, 0, none⟩ = some (.slice A0_0 l0_0.length c0_0) := (blk_cell BK22.out 0).trans rfl; have hcgb21 : (w2).cell? ⟨gb2, 1, none⟩ = some (.slice A0_1 l0_1.length c0_1) := (blk_cell BK22.out 1).trans rfl; skip)
  | (go_at_call 39; (refine (i_CanonOf.calls k _ _ l0_0 _ _ l0_1 q1 q2 _ w2 (HS.out.below HB2.out) HQ.out).mono ?_); rintro e w3 ⟨B0, b0, B1, b1, rfl, hS, hb⟩; have HB3 := aM (below_step HB2.out hb); have BK33 := aM (blk_below BK3.out hb); have HS3 := aM hS; clear hcgb20 hcgb21 hb hS BK3 BK22 HB2)
  | ((with_reducible refine gate_dst (N := 5) rfl ?_); refine bEv (cs := #[.slice none 0 0, .slice none 0 0]) (t := 27) ?_; intro gb5 hg5 w4 hbox hb; have BK5 := aM hbox; have HB4 := aM (below_step HB3.out hb); have HG5 := aM (show w.heap.size ≤ gb5 by rw [hg5]; exact below_size HB3.out); have BK34 := aM (blk_below BK33.out hb); have HNE := aM (show gb3 ≠ gb5 by have := blk_lt BK33.out; omega); have HG35 := aM (show w3.heap.size ≤ gb5 by omega); have HB34 := aM hb; clear hbox hb hg5 BK33 HB3)
  | (refine wpList_store_row rfl 27 (.tmp 5) (.tmp 12) rfl gb5 #[.slice B0 q1.length b0, .slice B1 q2.length b1] rfl rfl 27 #[.slice none 0 0, .slice none 0 0] BK5.out (by kernel_rfl) rfl (by simp [Value.oneCell']) ?_; have BK35 := aM ((setRow_other w4 gb5 gb3 #[.slice B0 q1.length b0, .slice B1 q2.length b1] HNE.out).trans BK34.out); have HB5 := aM (below_setRow HB4.out HG5.out #[.slice B0 q1.length b0, .slice B1 q2.length b1]); have HC5 := aM (setRow_heap w4 gb5 _ #[.slice B0 q1.length b0, .slice B1 q2.length b1] _ _ BK5.out); have HS5 := aM (HS3.out.below (below_setRow HB34.out HG35.out #[.slice B0 q1.length b0, .slice B1 q2.length b1])); clear BK34 HB4 BK5; have hcgb30 : (w4.setRow gb5 #[.slice B0 q1.length b0, .slice B1 q2.length b1]).cell? ⟨gb3, 0, none⟩ = some (.slice A1_0 l1_0.length c1_0) := (blk_cell BK35.out 0).trans rfl; have hcgb31 : (w4.setRow gb5 #[.slice B0 q1.length b0, .slice B1 q2.length b1]).cell? ⟨gb3, 1, none⟩ = some (.slice A1_1 l1_1.length c1_1) := (blk_cell BK35.out 1).trans rfl;  skip)
  | (go_at_call 39; (refine (i_CanonOf.calls k _ _ l1_0 _ _ l1_1 p1 p2 _ (w4.setRow gb5 #[.slice B0 q1.length b0, .slice B1 q2.length b1]) (HT.out.below HB5.out) HP.out).mono ?_); rintro e w6 ⟨D0, d0, D1, d1, rfl, hS, hb⟩; have HB6 := aM (below_step HB5.out hb); have HC6 := aM (blk_below HC5.out hb); have HS6 := aM (HS5.out.below hb); have HT6 := aM hS; clear hcgb30 hcgb31 hb hS BK35 HB5 HC5 HS5)
  | ((with_reducible refine gate_dst (N := 7) rfl ?_); refine bEv (cs := #[.slice none 0 0, .slice none 0 0]) (t := 27) ?_; intro gb7 hg7 w7 hbox hb; have BK7 := aM hbox; have HB7 := aM (below_step HB6.out hb); have HG7 := aM (show w.heap.size ≤ gb7 by rw [hg7]; exact below_size HB6.out); have HC7 := aM (blk_below HC6.out hb); have HNE7 := aM (show gb7 ≠ gb5 by have := blk_lt HC6.out; omega); have HG67 := aM (show w6.heap.size ≤ gb7 by omega); have HB67 := aM hb; clear hbox hb hg7 HC6 HB6)
  | (refine wpList_store_row rfl 27 (.tmp 7) (.tmp 17) rfl gb7 #[.slice D0 p1.length d0, .slice D1 p2.length d1] rfl rfl 27 #[.slice none 0 0, .slice none 0 0] BK7.out (by kernel_rfl) rfl (by simp [Value.oneCell']) ?_; have HD9 := aM (setRow_heap w7 gb7 _ #[.slice D0 p1.length d0, .slice D1 p2.length d1] _ _ BK7.out); have HC9 := aM ((setRow_other w7 gb7 gb5 #[.slice D0 p1.length d0, .slice D1 p2.length d1] HNE7.out.symm).trans HC7.out); have HB9 := aM (below_setRow HB7.out HG7.out #[.slice D0 p1.length d0, .slice D1 p2.length d1]); have HS9 := aM (HS6.out.below (below_setRow HB67.out HG67.out #[.slice D0 p1.length d0, .slice D1 p2.length d1])); have HT9 := aM (HT6.out.below (below_setRow HB67.out HG67.out #[.slice D0 p1.length d0, .slice D1 p2.length d1])); clear BK7 HC7 HB7; have hcgb50 : (w7.setRow gb7 #[.slice D0 p1.length d0, .slice D1 p2.length d1]).cell? ⟨gb5, 0, none⟩ = some (.slice B0 q1.length b0) := (blk_cell HC9.out 0).trans rfl; have hcgb51 : (w7.setRow gb7 #[.slice D0 p1.length d0, .slice D1 p2.length d1]).cell? ⟨gb5, 1, none⟩ = some (.slice B1 q2.length b1) := (blk_cell HC9.out 1).trans rfl;  have hcgb70 : (w7.setRow gb7 #[.slice D0 p1.length d0, .slice D1 p2.length d1]).cell? ⟨gb7, 0, none⟩ = some (.slice D0 p1.length d0) := (blk_cell HD9.out 0).trans rfl; have hcgb71 : (w7.setRow gb7 #[.slice D0 p1.length d0, .slice D1 p2.length d1]).cell? ⟨gb7, 1, none⟩ = some (.slice D1 p2.length d1) := (blk_cell HD9.out 1).trans rfl;  skip))
 go_ret
 exact ⟨rfl, HB9.out⟩

/-! ### i_IsFixedBy: function 20 -/
def i_IsFixedBy.f (k : Nat) (l0_0 : List Int) (l0_1 : List Int) (a1 : ByteArray) : Option (Bool) := (i_RunWord.f k l0_0 l0_1 a1).bind fun bt486 => (if bt486.2.2 = true then ((i_AreIsomorphic.f k bt486.1 bt486.2.1 l0_0 l0_1).bind fun t494 => (some t494)) else (some false))
theorem i_IsFixedBy.calls (k : Nat) (A0_0 : Option Addr) (c0_0 : Nat) (l0_0 : List Int) (A0_1 : Option Addr) (c0_1 : Nat) (l0_1 : List Int) (a1 : ByteArray) (r : Bool) (w : World) (hr0_0 : Kd.C (Kd.int .i64) w A0_0 l0_0.length l0_0) (hc0_0 : l0_0.length ≤ c0_0) (hr0_1 : Kd.C (Kd.int .i64) w A0_1 l0_1.length l0_1) (hc0_1 : l0_1.length ≤ c0_1) (h : i_IsFixedBy.f k l0_0 l0_1 a1 = some r) :
  Calls Try.prog 20 #[.agg #[.slice A0_0 l0_0.length c0_0, .slice A0_1 l0_1.length c0_1], .string a1] w fun e w' => e = .returned (.bool r) ∧ Below w.heap.size w w' := by
 have hu27 := Try.underlying27
 have HR0_0 := aM hr0_0
 have HC0_0 := aM hc0_0
 clear hr0_0 hc0_0
 have HR0_1 := aM hr0_1
 have HC0_1 := aM hc0_1
 clear hr0_1 hc0_1
 have HB := aM (Below.refl w.heap.size w)
 have H : ((i_RunWord.f k l0_0 l0_1 a1).bind fun bt486 => (if bt486.2.2 = true then ((i_AreIsomorphic.f k bt486.1 bt486.2.1 l0_0 l0_1).bind fun t494 => (some t494)) else (some false))) = some r := h
 clear h
 replace H := oB H
 obtain ⟨⟨t486, t489, t492⟩, A30, H⟩ := H
 replace H : (if t492 = true then ((i_AreIsomorphic.f k t486 t489 l0_0 l0_1).bind fun t494 => (some t494)) else (some false)) = some r := H
 have A3 := aM A30
 clear A30
 by_cases c4 : t492 = true
 {
 subst c4
 have H1 : ((i_AreIsomorphic.f k t486 t489 l0_0 l0_1).bind fun t494 => (some t494)) = some r := by rw [if_pos rfl] at H; exact H
 clear H
 have H := H1
 clear H1
 replace H := oB H
 obtain ⟨t494, A50, H⟩ := H
 replace H : (some t494) = some r := H
 have A5 := aM A50
 clear A50
 obtain rfl := Option.some.inj H
 go_enter Try.func20, Try.ntmps20
 go_wp2_with (first | ((with_reducible refine gate_dst (N := 2) rfl ?_); refine bEv (cs := #[.slice A0_0 l0_0.length c0_0, .slice A0_1 l0_1.length c0_1]) (t := 27) ?_; intro gb485 hg w6 hbox hb; have BK485 := aM (hbox); have GW485 := aM ((szX (below_size (bX HB.out)) hg : w.heap.size ≤ gb485)); have GE485 := aM ((szX (below_size (bX HB.out)) hg : w.heap.size ≤ gb485)); replace HB := aM (below_step (bX HB.out) hb); clear hb hbox hg; have hcz7_0 := cz20 BK485.out; have hcz7_1 := cz21 BK485.out; have hfz7_0 := blk_frozen BK485.out 0; have hfz7_1 := blk_frozen BK485.out 1) | ((with_reducible refine gate_callee (f := 30) rfl ?_); refine goesL_ (some 10) rfl rfl Try.func30 (by kernel_rfl) rfl #[.agg #[.slice A0_0 l0_0.length c0_0, .slice A0_1 l0_1.length c0_1], .string a1] rfl aX ?_; (with_reducible refine (i_RunWord.calls k _ _ l0_0 _ _ l0_1 a1 t486 t489 true _ ?side1 ?side2 ?side3 ?side4 A3.out).mono ?_); (case side1 => exact cX (Kd.C_below HR0_0.out HB.out)); (case side2 => exact HC0_0.out); (case side3 => exact cX (Kd.C_below HR0_1.out HB.out)); (case side4 => exact HC0_1.out); rintro e w8 ⟨v487, v490, rfl, ho0, ho1, hb⟩; refine ⟨_, rfl, ?_⟩; have HO488 := aM (Kd.R_lower ho0 (below_size (bX1 HB.out GE485.out))); have HO491 := aM (Kd.R_lower ho1 (below_size (bX1 HB.out GE485.out))); replace BK485 := aM (bbX BK485.out hb); replace HB := aM (below_step (bX1 HB.out GE485.out) hb); (try clear hb); (try clear hb2); (try clear hk); (try clear hi); (try clear ho0); (try clear ho1)) | ((with_reducible refine gate_dst (N := 5) rfl ?_); refine bEv (cs := #[.slice none 0 0, .slice none 0 0]) (t := 27) ?_; intro gb493 hg w9 hbox hb; replace HO488 := aM (Kd.R_below (rX HO488.out) hb); replace HO491 := aM (Kd.R_below (rX HO491.out) hb); have BK493 := aM (hbox); have GW493 := aM ((szX (below_size (bX1 HB.out GE485.out)) hg : w.heap.size ≤ gb493)); have GE493 := aM ((szX (below_size (bX1 HB.out GE485.out)) hg : w.heap.size ≤ gb493)); replace HB := aM (below_step (bX1 HB.out GE485.out) hb); have NB485_493 := aM (neX BK485.out hg); have NB493_485 := aM (nfX BK485.out hg); replace BK485 := aM (bbX BK485.out hb); clear hb hbox hg; obtain ⟨Ao10, co10, eo10⟩ := Kd.R_slice HO488.out; subst eo10; have hnb11 := NB493_485.out; have hnc11 := NB485_493.out; have hcz12_0 := cz20 BK493.out; have hcz12_1 := cz21 BK493.out; have hfz12_0 := blk_frozen BK493.out 0; have hfz12_1 := blk_frozen BK493.out 1; obtain ⟨Ao13, co13, eo13⟩ := Kd.R_slice HO491.out; subst eo13; have hcz14_0 := cz20 BK485.out; have hcz14_1 := cz21 BK485.out; have hfz14_0 := blk_frozen BK485.out 0; have hfz14_1 := blk_frozen BK485.out 1) | (go_at_call 31; (with_reducible refine (i_AreIsomorphic.calls k _ _ t486 _ _ t489 _ _ l0_0 _ _ l0_1 t494 _ ?side1 ?side2 ?side3 ?side4 ?side5 ?side6 ?side7 ?side8 A5.out).mono ?_); (case side1 => exact rcX (fr2 HO488.out BK493.out (.slice Ao10 t486.length co10) (.slice Ao13 t489.length co13))); (case side2 => exact (Kd.R_reads' HO488.out).2.1); (case side3 => exact rcX (fr2 HO491.out BK493.out (.slice Ao10 t486.length co10) (.slice Ao13 t489.length co13))); (case side4 => exact (Kd.R_reads' HO491.out).2.1); (case side5 => exact Kd.C_below HR0_0.out (bX2 HB.out GE485.out GE493.out)); (case side6 => exact HC0_0.out); (case side7 => exact Kd.C_below HR0_1.out (bX2 HB.out GE485.out GE493.out)); (case side8 => exact HC0_1.out); rintro e w15 ⟨rfl, hb⟩; replace HO488 := aM (Kd.R_below (rX (fr2 HO488.out BK493.out (.slice Ao10 t486.length co10) (.slice Ao13 t489.length co13))) hb); replace HO491 := aM (Kd.R_below (rX (fr2 HO491.out BK493.out (.slice Ao10 t486.length co10) (.slice Ao13 t489.length co13))) hb); replace BK485 := aM (blk_below (g := gb485) (o := .cells #[.slice A0_0 l0_0.length c0_0, .slice A0_1 l0_1.length c0_1] 27 (0, 0)) (by (with_reducible repeat (first|refine kN ?_ _|refine kD ?_|refine kA ?_ _)); refine blk_far ?_ NB485_493.out _; (with_reducible repeat (first|refine kN ?_ _|refine kD ?_|refine kA ?_ _)); refine blk_far ?_ NB485_493.out _; (with_reducible repeat (first|refine kN ?_ _|refine kD ?_|refine kA ?_ _)); exact BK485.out) hb); replace BK493 := aM (blk_below (g := gb493) (o := .cells #[.slice Ao10 t486.length co10, .slice Ao13 t489.length co13] 27 (0, 0)) (by (with_reducible repeat (first|refine kN ?_ _|refine kD ?_|refine kA ?_ _)); refine blk_put (cs := #[.slice Ao10 t486.length co10, .slice none 0 0]) ?_ 1 _ rfl; (with_reducible repeat (first|refine kN ?_ _|refine kD ?_|refine kA ?_ _)); refine blk_put (cs := #[.slice none 0 0, .slice none 0 0]) ?_ 0 _ rfl; (with_reducible repeat (first|refine kN ?_ _|refine kD ?_|refine kA ?_ _)); exact BK493.out) hb); replace HB := aM (below_step (bX2 HB.out GE485.out GE493.out) hb); (try clear hb); (try clear hb2); (try clear hk); (try clear hi)))
 go_ret
 exact ⟨eX, bX2 HB.out GE485.out GE493.out⟩
 }
 {
 replace c4 := Bool.eq_false_iff.mpr c4
 subst c4
 have H1 : (some false) = some r := by rw [if_neg (show ¬ (false = true) by decide)] at H; exact H
 clear H
 have H := H1
 clear H1
 obtain rfl := Option.some.inj H
 go_enter Try.func20, Try.ntmps20
 go_wp2_with (first | ((with_reducible refine gate_dst (N := 2) rfl ?_); refine bEv (cs := #[.slice A0_0 l0_0.length c0_0, .slice A0_1 l0_1.length c0_1]) (t := 27) ?_; intro gb485 hg w16 hbox hb; have BK485 := aM (hbox); have GW485 := aM ((szX (below_size (bX HB.out)) hg : w.heap.size ≤ gb485)); have GE485 := aM ((szX (below_size (bX HB.out)) hg : w.heap.size ≤ gb485)); replace HB := aM (below_step (bX HB.out) hb); clear hb hbox hg; have hcz17_0 := cz20 BK485.out; have hcz17_1 := cz21 BK485.out; have hfz17_0 := blk_frozen BK485.out 0; have hfz17_1 := blk_frozen BK485.out 1) | ((with_reducible refine gate_callee (f := 30) rfl ?_); refine goesL_ (some 10) rfl rfl Try.func30 (by kernel_rfl) rfl #[.agg #[.slice A0_0 l0_0.length c0_0, .slice A0_1 l0_1.length c0_1], .string a1] rfl aX ?_; (with_reducible refine (i_RunWord.calls k _ _ l0_0 _ _ l0_1 a1 t486 t489 false _ ?side1 ?side2 ?side3 ?side4 A3.out).mono ?_); (case side1 => exact cX (Kd.C_below HR0_0.out HB.out)); (case side2 => exact HC0_0.out); (case side3 => exact cX (Kd.C_below HR0_1.out HB.out)); (case side4 => exact HC0_1.out); rintro e w18 ⟨v487, v490, rfl, ho0, ho1, hb⟩; refine ⟨_, rfl, ?_⟩; have HO488 := aM (Kd.R_lower ho0 (below_size (bX1 HB.out GE485.out))); have HO491 := aM (Kd.R_lower ho1 (below_size (bX1 HB.out GE485.out))); replace BK485 := aM (bbX BK485.out hb); replace HB := aM (below_step (bX1 HB.out GE485.out) hb); (try clear hb); (try clear hb2); (try clear hk); (try clear hi); (try clear ho0); (try clear ho1)) | ((with_reducible refine gate_dst (N := 5) rfl ?_); refine bEv (cs := #[.slice none 0 0, .slice none 0 0]) (t := 27) ?_; intro gb493 hg w19 hbox hb; replace HO488 := aM (Kd.R_below (rX HO488.out) hb); replace HO491 := aM (Kd.R_below (rX HO491.out) hb); have BK493 := aM (hbox); have GW493 := aM ((szX (below_size (bX1 HB.out GE485.out)) hg : w.heap.size ≤ gb493)); have GE493 := aM ((szX (below_size (bX1 HB.out GE485.out)) hg : w.heap.size ≤ gb493)); replace HB := aM (below_step (bX1 HB.out GE485.out) hb); have NB485_493 := aM (neX BK485.out hg); have NB493_485 := aM (nfX BK485.out hg); replace BK485 := aM (bbX BK485.out hb); clear hb hbox hg; obtain ⟨Ao20, co20, eo20⟩ := Kd.R_slice HO488.out; subst eo20; have hnb21 := NB493_485.out; have hnc21 := NB485_493.out; have hcz22_0 := cz20 BK493.out; have hcz22_1 := cz21 BK493.out; have hfz22_0 := blk_frozen BK493.out 0; have hfz22_1 := blk_frozen BK493.out 1; obtain ⟨Ao23, co23, eo23⟩ := Kd.R_slice HO491.out; subst eo23))
 go_ret
 exact ⟨eX, bX2 HB.out GE485.out GE493.out⟩
 }

/-! ### i_HasHalfTurn: function 10 -/
def i_HasHalfTurn.f (k : Nat) (l0_0 : List Int) (l0_1 : List Int) : Option (Bool) := (i_IsFixedBy.f k l0_0 l0_1 (⟨#[83, 83]⟩ : ByteArray)).bind fun t496 => (some t496)
theorem i_HasHalfTurn.calls (k : Nat) (A0_0 : Option Addr) (c0_0 : Nat) (l0_0 : List Int) (A0_1 : Option Addr) (c0_1 : Nat) (l0_1 : List Int) (r : Bool) (w : World) (hr0_0 : Kd.C (Kd.int .i64) w A0_0 l0_0.length l0_0) (hc0_0 : l0_0.length ≤ c0_0) (hr0_1 : Kd.C (Kd.int .i64) w A0_1 l0_1.length l0_1) (hc0_1 : l0_1.length ≤ c0_1) (h : i_HasHalfTurn.f k l0_0 l0_1 = some r) :
  Calls Try.prog 10 #[.agg #[.slice A0_0 l0_0.length c0_0, .slice A0_1 l0_1.length c0_1]] w fun e w' => e = .returned (.bool r) ∧ Below w.heap.size w w' := by
 have hu27 := Try.underlying27
 have HR0_0 := aM hr0_0
 have HC0_0 := aM hc0_0
 clear hr0_0 hc0_0
 have HR0_1 := aM hr0_1
 have HC0_1 := aM hc0_1
 clear hr0_1 hc0_1
 have HB := aM (Below.refl w.heap.size w)
 have H : ((i_IsFixedBy.f k l0_0 l0_1 (⟨#[83, 83]⟩ : ByteArray)).bind fun t496 => (some t496)) = some r := h
 clear h
 replace H := oB H
 obtain ⟨t496, A20, H⟩ := H
 replace H : (some t496) = some r := H
 have A2 := aM A20
 clear A20
 obtain rfl := Option.some.inj H
 go_enter Try.func10, Try.ntmps10
 go_wp2_with (first | ((with_reducible refine gate_dst (N := 1) rfl ?_); refine bEv (cs := #[.slice A0_0 l0_0.length c0_0, .slice A0_1 l0_1.length c0_1]) (t := 27) ?_; intro gb495 hg w3 hbox hb; have BK495 := aM (hbox); have GW495 := aM ((szX (below_size (bX HB.out)) hg : w.heap.size ≤ gb495)); have GE495 := aM ((szX (below_size (bX HB.out)) hg : w.heap.size ≤ gb495)); replace HB := aM (below_step (bX HB.out) hb); clear hb hbox hg; have hcz4_0 := cz20 BK495.out; have hcz4_1 := cz21 BK495.out; have hfz4_0 := blk_frozen BK495.out 0; have hfz4_1 := blk_frozen BK495.out 1) | ((with_reducible refine gate_callee (f := 20) rfl ?_); refine goesL_ (some 4) rfl rfl Try.func20 (by kernel_rfl) rfl #[.agg #[.slice A0_0 l0_0.length c0_0, .slice A0_1 l0_1.length c0_1], .string (⟨#[83, 83]⟩ : ByteArray)] rfl aX ?_; (with_reducible refine (i_IsFixedBy.calls k _ _ l0_0 _ _ l0_1 (⟨#[83, 83]⟩ : ByteArray) t496 _ ?side1 ?side2 ?side3 ?side4 A2.out).mono ?_); (case side1 => exact cX (Kd.C_below HR0_0.out HB.out)); (case side2 => exact HC0_0.out); (case side3 => exact cX (Kd.C_below HR0_1.out HB.out)); (case side4 => exact HC0_1.out); rintro e w5 ⟨rfl, hb⟩; refine ⟨_, rfl, ?_⟩; replace BK495 := aM (bbX BK495.out hb); replace HB := aM (below_step (bX1 HB.out GE495.out) hb); (try clear hb); (try clear hb2); (try clear hk); (try clear hi)))
 go_ret
 exact ⟨eX, bX1 HB.out GE495.out⟩

/-! ### i_CountWalls: function 11 -/
mutual
def i_CountWalls.l0 : Nat → List (S41) → Int → List (S41) → Int → Int → Option (Int)
 | 0, _, _, _, _, _ => none
 | k + 1, x0, x3, x11, x12, x13 => if x13 < x12 then (if 0 ≤ x13 then (if x13 < (x11.length : Int) then ((i_CellAt.f k x0 (wrap64 (((rd_T41 x11 x13).f0) + 1)) ((rd_T41 x11 x13).f1)).bind fun t500 => ((i_CellAt.f k x0 (wrap64 (((rd_T41 x11 x13).f0) - 1)) ((rd_T41 x11 x13).f1)).bind fun t501 => ((i_CellAt.f k x0 ((rd_T41 x11 x13).f0) (wrap64 (((rd_T41 x11 x13).f1) + 1))).bind fun t502 => ((i_CellAt.f k x0 ((rd_T41 x11 x13).f0) (wrap64 (((rd_T41 x11 x13).f1) - 1))).bind fun t503 => ((some (([t500, t501, t502, t503] : List Int) : List Int)).bind fun y504 => (i_CountWalls.l1 k x0 x3 x11 x12 x13 y504 (y504.length : Int) 0)))))) else (none)) else (none)) else (some x3)
def i_CountWalls.l1 : Nat → List (S41) → Int → List (S41) → Int → Int → List Int → Int → Int → Option (Int)
 | 0, _, _, _, _, _, _, _, _ => none
 | k + 1, x0, x3, x11, x12, x13, x45, x46, x47 => if x47 < x46 then (if 0 ≤ x47 then (if x47 < (x45.length : Int) then (if (rd x45 x47) < 0 then (i_CountWalls.l1 k x0 (wrap64 (x3 + 1)) x11 x12 x13 x45 x46 (wrap64 (x47 + 1))) else (i_CountWalls.l1 k x0 x3 x11 x12 x13 x45 x46 (wrap64 (x47 + 1)))) else (none)) else (none)) else (i_CountWalls.l0 k x0 x3 x11 x12 (wrap64 (x13 + 1)))
end
def i_CountWalls.f (k : Nat) (l0 : List (S41)) : Option (Int) := (i_TableOk.f k l0).bind fun t497 => (if t497 = true then (i_CountWalls.l0 k l0 0 l0 (l0.length : Int) 0) else (some (-1)))
def i_CountWalls.T7 : Bool × List (List Nat × List Nat) := (true, [([], []), ([], []), ([1], [1]), ([2], [2]), ([], []), ([4], [4]), ([0, 3, 5], [0, 3, 5]), ([], []), ([], []), ([8], [8]), ([9], [9]), ([], []), ([11], [11]), ([7, 10, 12, 6], [7, 10, 12]), ([], []), ([], []), ([15], [15]), ([], []), ([17], [17]), ([18], [18]), ([14, 16, 19, 13], [14, 16, 19]), ([], []), ([], []), ([22], [22]), ([], []), ([24], [24]), ([25], [25]), ([21, 23, 26, 20], [21, 23, 26]), ([6, 13, 20, 27], [6, 13, 20, 27]), ([28], [28]), ([], [])])
def i_CountWalls.B7 : List Nat := [0, 0, 2, 6, 0, 16, 63, 0, 0, 256, 768, 0, 2048, 8191, 0, 0, 32768, 0, 131072, 393216, 1048575, 0, 0, 4194304, 0, 16777216, 50331648, 134217727, 268435455, 536870911, 0]
theorem i_CountWalls.tab7 : rtab .any (opsOf Try.f11 7) = i_CountWalls.T7 := by kernel_rfl
theorem i_CountWalls.bits7 : waitsOk i_CountWalls.T7.2 i_CountWalls.B7 = true := by kernel_rfl
theorem i_CountWalls.calls (k : Nat) (A0 : Option Addr) (c0 : Nat) (l0 : List (S41)) (r : Int) (w : World) (hr0 : Kd.C k41 w A0 l0.length l0) (hc0 : l0.length ≤ c0) (h : i_CountWalls.f k l0 = some r) :
  Calls Try.prog 11 #[.slice A0 l0.length c0] w fun e w' => e = .returned (.int .i64 r) ∧ Below w.heap.size w w' := by
 have hu41 := Try.underlying41
 have HR0 := aM hr0
 have HC0 := aM hc0
 clear hr0 hc0
 have HB := aM (Below.refl w.heap.size w)
 have H : ((i_TableOk.f k l0).bind fun t497 => (if t497 = true then (i_CountWalls.l0 k l0 0 l0 (l0.length : Int) 0) else (some (-1)))) = some r := h
 clear h
 replace H := oB H
 obtain ⟨t497, A20, H⟩ := H
 replace H : (if t497 = true then (i_CountWalls.l0 k l0 0 l0 (l0.length : Int) 0) else (some (-1))) = some r := H
 have A2 := aM A20
 clear A20
 by_cases c3 : t497 = true
 {
 subst c3
 have H1 : (i_CountWalls.l0 k l0 0 l0 (l0.length : Int) 0) = some r := by rw [if_pos rfl] at H; exact H
 clear H
 have H := H1
 clear H1
 have H' := aM H
 clear H
 go_enter Try.func11, Try.ntmps11
 go_wp2_with (first | ((with_reducible refine gate_callee (f := 7) rfl ?_); refine goesL_ (some 9) rfl rfl Try.func7 (by kernel_rfl) rfl #[.slice A0 l0.length c0] rfl aX ?_; (with_reducible refine (i_TableOk.calls k _ _ l0 true _ ?side1 ?side2 A2.out).mono ?_); (case side1 => exact cX HR0.out); (case side2 => exact HC0.out); rintro e w4 ⟨rfl, hb⟩; refine ⟨_, rfl, ?_⟩; replace HB := aM (below_step (bX HB.out) hb); (try clear hb); (try clear hb2); (try clear hk); (try clear hi)))
 go_loopg [3, 13] k (fun kq v3 v13 w' => ∃ (x3_1 : Int) (x13_1 : Int), v3 = .int .i64 x3_1 ∧ v13 = .int .i64 x13_1 ∧ Aside0 (i_CountWalls.l0 kq l0 x3_1 l0 (l0.length : Int) x13_1 = some r) ∧ Aside0 (kq ≤ k) ∧ Aside0 (Below w.heap.size w w'))
 case atStart => exact ⟨(0), (0), vX, vX, H', ⟨Nat.le_refl _⟩, ⟨bX HB.out⟩⟩
 case round =>
 clear H'
 try clear c3
 obtain ⟨x3_1, x13_1, rfl, rfl, HA, HK1, HB⟩ := hrel
 cases gk with
 | zero => exact absurd HA.out (by simp [i_CountWalls.l0])
 | succ k1 =>
 have H := HA.out
 clear HA
 simp only [i_CountWalls.l0] at H
 by_cases c5 : x13_1 < (l0.length : Int)
 {
 rw [if_pos c5] at H
 have c5b0 : decide (x13_1 < (l0.length : Int)) = true := decide_eq_true c5
 clear c5
 by_cases c6 : 0 ≤ x13_1
 {
 rw [if_pos c6] at H
 have c6b0 : decide (0 ≤ x13_1) = true := decide_eq_true c6
 clear c6
 by_cases c7 : x13_1 < (l0.length : Int)
 {
 rw [if_pos c7] at H
 have c7b0 : decide (x13_1 < (l0.length : Int)) = true := decide_eq_true c7
 clear c7
 replace H := oB H
 obtain ⟨t500, A80, H⟩ := H
 replace H : ((i_CellAt.f k1 l0 (wrap64 (((rd_T41 l0 x13_1).f0) - 1)) ((rd_T41 l0 x13_1).f1)).bind fun t501 => ((i_CellAt.f k1 l0 ((rd_T41 l0 x13_1).f0) (wrap64 (((rd_T41 l0 x13_1).f1) + 1))).bind fun t502 => ((i_CellAt.f k1 l0 ((rd_T41 l0 x13_1).f0) (wrap64 (((rd_T41 l0 x13_1).f1) - 1))).bind fun t503 => ((some (([t500, t501, t502, t503] : List Int) : List Int)).bind fun y504 => (i_CountWalls.l1 k1 l0 x3_1 l0 (l0.length : Int) x13_1 y504 (y504.length : Int) 0))))) = some r := H
 have A8 := aM A80
 clear A80
 replace H := oB H
 obtain ⟨t501, A90, H⟩ := H
 replace H : ((i_CellAt.f k1 l0 ((rd_T41 l0 x13_1).f0) (wrap64 (((rd_T41 l0 x13_1).f1) + 1))).bind fun t502 => ((i_CellAt.f k1 l0 ((rd_T41 l0 x13_1).f0) (wrap64 (((rd_T41 l0 x13_1).f1) - 1))).bind fun t503 => ((some (([t500, t501, t502, t503] : List Int) : List Int)).bind fun y504 => (i_CountWalls.l1 k1 l0 x3_1 l0 (l0.length : Int) x13_1 y504 (y504.length : Int) 0)))) = some r := H
 have A9 := aM A90
 clear A90
 replace H := oB H
 obtain ⟨t502, A100, H⟩ := H
 replace H : ((i_CellAt.f k1 l0 ((rd_T41 l0 x13_1).f0) (wrap64 (((rd_T41 l0 x13_1).f1) - 1))).bind fun t503 => ((some (([t500, t501, t502, t503] : List Int) : List Int)).bind fun y504 => (i_CountWalls.l1 k1 l0 x3_1 l0 (l0.length : Int) x13_1 y504 (y504.length : Int) 0))) = some r := H
 have A10 := aM A100
 clear A100
 replace H := oB H
 obtain ⟨t503, A110, H⟩ := H
 replace H : ((some (([t500, t501, t502, t503] : List Int) : List Int)).bind fun y504 => (i_CountWalls.l1 k1 l0 x3_1 l0 (l0.length : Int) x13_1 y504 (y504.length : Int) 0)) = some r := H
 have A11 := aM A110
 clear A110
 obtain ⟨y504, hy504⟩ : ∃ y_ : List Int, y_ = (([t500, t501, t502, t503] : List Int)) := ⟨_, rfl⟩
 replace H : (i_CountWalls.l1 k1 l0 x3_1 l0 (l0.length : Int) x13_1 y504 (y504.length : Int) 0) = some r := by first | (rw [hy504]; with_reducible exact H) | (have H2_ := (Option.bind_some _ _).symm.trans H; rw [hy504]; with_reducible exact H2_) | (have H2_ := (Option.bind_some _ _).symm.trans H; with_reducible exact H2_) | with_reducible exact H | (rw [hy504]; exact H) | exact H
 have Ny504 := aM hy504
 clear hy504
 have H' := aM H
 clear H
 have p498 : 0 ≤ (x13_1 : Int) := dX
 have q498 : x13_1 < (l0.length : Int) := dX
 obtain ⟨ad498, e498, hx498_0, hx498_1⟩ := at_T41 HR0.out x13_1 p498 q498
 cases e498
 replace hx498_0 := (HB.out.cell (World.block_lt_of_cell? w _ hx498_0)).trans hx498_0
 replace hx498_1 := (HB.out.cell (World.block_lt_of_cell? w _ hx498_1)).trans hx498_1
 replace p498 := eq_true p498
 replace q498 := eq_true q498
 try go_wp2_with (first | ((with_reducible refine gate_dst (N := 5) rfl ?_); refine bEv (cs := #[.int .i64 0, .int .i64 0]) (t := 41) ?_; intro gb499 hg w12 hbox hb; have BK499 := aM (hbox); have GW499 := aM ((szX (below_size (bX HB.out)) hg : w.heap.size ≤ gb499)); have GE499 := aM ((szX (below_size (bX HB.out)) hg : w.heap.size ≤ gb499)); replace HB := aM (below_step (bX HB.out) hb); clear hb hbox hg; have hcz13_0 := cz20 BK499.out; have hcz13_1 := cz21 BK499.out; have hfz13_0 := blk_frozen BK499.out 0; have hfz13_1 := blk_frozen BK499.out 1))
 have n0_ : Aside0 (((w12.setCell ⟨gb499, 0, none⟩ (.int .i64 ((rd_T41 l0 x13_1).f0))).setCell ⟨gb499, 1, none⟩ (.int .i64 ((rd_T41 l0 x13_1).f1))).heap[gb499]? = some (.cells #[.int .i64 ((rd_T41 l0 x13_1).f0), .int .i64 ((rd_T41 l0 x13_1).f1)] 41 (0, 0))) := ⟨by (with_reducible repeat (first|refine kN ?_ _|refine kD ?_|refine kA ?_ _)); refine blk_put (cs := #[.int .i64 ((rd_T41 l0 x13_1).f0), .int .i64 0]) ?_ 1 _ rfl; (with_reducible repeat (first|refine kN ?_ _|refine kD ?_|refine kA ?_ _)); refine blk_put (cs := #[.int .i64 0, .int .i64 0]) ?_ 0 _ rfl; (with_reducible repeat (first|refine kN ?_ _|refine kD ?_|refine kA ?_ _)); exact BK499.out⟩
 have n1_ : Aside0 (Below w.heap.size w ((w12.setCell ⟨gb499, 0, none⟩ (.int .i64 ((rd_T41 l0 x13_1).f0))).setCell ⟨gb499, 1, none⟩ (.int .i64 ((rd_T41 l0 x13_1).f1)))) := ⟨bX1 HB.out GE499.out⟩
 (try clear BK499)
 (try clear HB)
 generalize ((w12.setCell ⟨gb499, 0, none⟩ (.int .i64 ((rd_T41 l0 x13_1).f0))).setCell ⟨gb499, 1, none⟩ (.int .i64 ((rd_T41 l0 x13_1).f1))) = w14 at n0_ n1_ ⊢
 have BK499 := n0_
 have HB := n1_
 clear n0_ n1_
 replace BK499 := aM (blk_drew BK499.out)
 replace HB := aM (below_drew1 HB.out)
 refine start_ (n := 31) (S := fun w' => w'.cell? ⟨gb499, 0, none⟩ = some (.int .i64 ((rd_T41 l0 x13_1).f0)) ∧ w'.cell? ⟨gb499, 1, none⟩ = some (.int .i64 ((rd_T41 l0 x13_1).f1))) (ds := []) #[ff,ff,ff,ff,ff,ff,ff,ff,ff,ff,ff,ff,ff,ff,ff,ff,ff,ff,ff,ff,ff,ff,ff,ff,ff,ff,ff,ff,ff,ff,ff] (by kernel_rfl) rfl rfl ⟨cz20 BK499.out, cz21 BK499.out⟩ (fun hHeld => ?_); refine with_tabW i_CountWalls.tab7 i_CountWalls.bits7 (fun HT_ HW_ => ?_)
 generalize w14.drew = w15 at BK499 HB hHeld ⊢
 refine pX 0 17 (fl 31 1) rfl rfl HT_.out ?_
 refine pX 1 18 (fl 31 3) rfl rfl HT_.out ?_
 refine pX 4 21 (fl 31 19) rfl rfl HT_.out ?_
 refine pX 7 24 (fl 31 147) rfl rfl HT_.out ?_
 refine pX 8 25 (fl 31 403) rfl rfl HT_.out ?_
 refine pX 11 28 (fl 31 2451) rfl rfl HT_.out ?_
 refine pX 14 31 (fl 31 18835) rfl rfl HT_.out ?_
 refine pX 15 32 (fl 31 51603) rfl rfl HT_.out ?_
 refine pX 17 34 (fl 31 182675) rfl rfl HT_.out ?_
 refine pX 21 38 (fl 31 2279827) rfl rfl HT_.out ?_
 refine pX 22 39 (fl 31 6474131) rfl rfl HT_.out ?_
 refine pX 24 41 (fl 31 23251347) rfl rfl HT_.out ?_
 refine pX 30 47 (fl 31 1096993171) rfl rfl HT_.out ?_
 refine tX2 2 19 (fl 31 1096993175) rfl rfl HT_.out HW_.out hHeld ?_
 refine pX 3 20 (fl 31 1096993183) rfl rfl HT_.out ?_
 refine tX2 5 22 (fl 31 1096993215) rfl rfl HT_.out HW_.out hHeld ?_
 refine tX2 9 26 (fl 31 1096993727) rfl rfl HT_.out HW_.out hHeld ?_
 refine pX 10 27 (fl 31 1096994751) rfl rfl HT_.out ?_
 refine tX2 12 29 (fl 31 1096998847) rfl rfl HT_.out HW_.out hHeld ?_
 refine tX2 16 33 (fl 31 1097064383) rfl rfl HT_.out HW_.out hHeld ?_
 refine tX2 18 35 (fl 31 1097326527) rfl rfl HT_.out HW_.out hHeld ?_
 refine pX 19 36 (fl 31 1097850815) rfl rfl HT_.out ?_
 refine tX2 23 40 (fl 31 1106239423) rfl rfl HT_.out HW_.out hHeld ?_
 refine tX2 25 42 (fl 31 1139793855) rfl rfl HT_.out HW_.out hHeld ?_
 refine pX 26 43 (fl 31 1206902719) rfl rfl HT_.out ?_
 refine one_ (i := 6) (N := some 23) #[tt,tt,tt,tt,tt,tt,tt,tt,tt,tt,tt,tt,tt,ff,tt,tt,tt,tt,tt,tt,ff,tt,tt,tt,tt,tt,tt,ff,ff,ff,tt] rfl rfl (one_of HT_.out (by kernel_rfl)) (by decide) (fun K hK => ?_)
 refine goes_ Try.func15 (by kernel_rfl) rfl #[.slice (some ad498) l0.length c0, .int .i64 (wrap64 (((rd_T41 l0 x13_1).f0) + 1)), .int .i64 ((rd_T41 l0 x13_1).f1)] (by rfl) rfl rfl aX ?_
 with_reducible refine (i_CellAt.calls k1 _ _ l0 (wrap64 (((rd_T41 l0 x13_1).f0) + 1)) ((rd_T41 l0 x13_1).f1) t500 _ ?side1 ?side2 A8.out).mono ?_
 (case side1 => exact cX (Kd.C_below HR0.out HB.out))
 (case side2 => exact HC0.out)
 rintro e w16 ⟨rfl, hb⟩
 refine ⟨_, rfl, ?_⟩
 replace BK499 := aM (bbX BK499.out hb)
 replace HB := aM (below_step (bX1 HB.out GE499.out) hb)
 (try clear hb)
 (try clear hb2)
 (try clear hk)
 (try clear hi)
 refine hK.out _ _ ⟨cz20 BK499.out, cz21 BK499.out⟩ (fun hHeld => ?_)
 clear hK K
 refine norm_ (a' := ?_) ?_ ?_
 rotate_left
 {
 show Act.put _ (some 23) _ = _
 simp only [Act.put, zA, zB, zC, i64_w, i32_w]
 rfl
 }
 refine one_ (i := 13) (N := some 30) #[tt,tt,tt,tt,tt,tt,tt,tt,tt,tt,tt,tt,tt,tt,tt,tt,tt,tt,tt,tt,ff,tt,tt,tt,tt,tt,tt,ff,ff,ff,tt] rfl rfl (one_of HT_.out (by kernel_rfl)) (by decide) (fun K hK => ?_)
 refine goes_ Try.func15 (by kernel_rfl) rfl #[.slice (some ad498) l0.length c0, .int .i64 (wrap64 (((rd_T41 l0 x13_1).f0) - 1)), .int .i64 ((rd_T41 l0 x13_1).f1)] (by rfl) rfl rfl aX ?_
 with_reducible refine (i_CellAt.calls k1 _ _ l0 (wrap64 (((rd_T41 l0 x13_1).f0) - 1)) ((rd_T41 l0 x13_1).f1) t501 _ ?side1 ?side2 A9.out).mono ?_
 (case side1 => exact cX (Kd.C_below HR0.out HB.out))
 (case side2 => exact HC0.out)
 rintro e w17 ⟨rfl, hb⟩
 refine ⟨_, rfl, ?_⟩
 replace BK499 := aM (bbX BK499.out hb)
 replace HB := aM (below_step (bX1 HB.out GE499.out) hb)
 (try clear hb)
 (try clear hb2)
 (try clear hk)
 (try clear hi)
 refine hK.out _ _ ⟨cz20 BK499.out, cz21 BK499.out⟩ (fun hHeld => ?_)
 clear hK K
 refine norm_ (a' := ?_) ?_ ?_
 rotate_left
 {
 show Act.put _ (some 30) _ = _
 simp only [Act.put, zA, zB, zC, i64_w, i32_w]
 rfl
 }
 refine one_ (i := 20) (N := some 37) #[tt,tt,tt,tt,tt,tt,tt,tt,tt,tt,tt,tt,tt,tt,tt,tt,tt,tt,tt,tt,tt,tt,tt,tt,tt,tt,tt,ff,ff,ff,tt] rfl rfl (one_of HT_.out (by kernel_rfl)) (by decide) (fun K hK => ?_)
 refine goes_ Try.func15 (by kernel_rfl) rfl #[.slice (some ad498) l0.length c0, .int .i64 ((rd_T41 l0 x13_1).f0), .int .i64 (wrap64 (((rd_T41 l0 x13_1).f1) + 1))] (by rfl) rfl rfl aX ?_
 with_reducible refine (i_CellAt.calls k1 _ _ l0 ((rd_T41 l0 x13_1).f0) (wrap64 (((rd_T41 l0 x13_1).f1) + 1)) t502 _ ?side1 ?side2 A10.out).mono ?_
 (case side1 => exact cX (Kd.C_below HR0.out HB.out))
 (case side2 => exact HC0.out)
 rintro e w18 ⟨rfl, hb⟩
 refine ⟨_, rfl, ?_⟩
 replace BK499 := aM (bbX BK499.out hb)
 replace HB := aM (below_step (bX1 HB.out GE499.out) hb)
 (try clear hb)
 (try clear hb2)
 (try clear hk)
 (try clear hi)
 refine hK.out _ _ ⟨cz20 BK499.out, cz21 BK499.out⟩ (fun hHeld => ?_)
 clear hK K
 refine norm_ (a' := ?_) ?_ ?_
 rotate_left
 {
 show Act.put _ (some 37) _ = _
 simp only [Act.put, zA, zB, zC, i64_w, i32_w]
 rfl
 }
 refine one_ (i := 27) (N := some 44) #[tt,tt,tt,tt,tt,tt,tt,tt,tt,tt,tt,tt,tt,tt,tt,tt,tt,tt,tt,tt,tt,tt,tt,tt,tt,tt,tt,tt,ff,ff,tt] rfl rfl (one_of HT_.out (by kernel_rfl)) (by decide) (fun K hK => ?_)
 refine goes_ Try.func15 (by kernel_rfl) rfl #[.slice (some ad498) l0.length c0, .int .i64 ((rd_T41 l0 x13_1).f0), .int .i64 (wrap64 (((rd_T41 l0 x13_1).f1) - 1))] (by rfl) rfl rfl aX ?_
 with_reducible refine (i_CellAt.calls k1 _ _ l0 ((rd_T41 l0 x13_1).f0) (wrap64 (((rd_T41 l0 x13_1).f1) - 1)) t503 _ ?side1 ?side2 A11.out).mono ?_
 (case side1 => exact cX (Kd.C_below HR0.out HB.out))
 (case side2 => exact HC0.out)
 rintro e w19 ⟨rfl, hb⟩
 refine ⟨_, rfl, ?_⟩
 replace BK499 := aM (bbX BK499.out hb)
 replace HB := aM (below_step (bX1 HB.out GE499.out) hb)
 (try clear hb)
 (try clear hb2)
 (try clear hk)
 (try clear hi)
 refine hK.out _ _ ⟨cz20 BK499.out, cz21 BK499.out⟩ (fun hHeld => ?_)
 clear hK K
 refine norm_ (a' := ?_) ?_ ?_
 rotate_left
 {
 show Act.put _ (some 44) _ = _
 simp only [Act.put, zA, zB, zC, i64_w, i32_w]
 rfl
 }
 refine one_ (i := 28) (N := some 45) #[tt,tt,tt,tt,tt,tt,tt,tt,tt,tt,tt,tt,tt,tt,tt,tt,tt,tt,tt,tt,tt,tt,tt,tt,tt,tt,tt,tt,tt,ff,tt] rfl rfl (one_of HT_.out (by kernel_rfl)) (by decide) (fun K hK => ?_)
 refine Kd.R_lit_step (Kd.int .i64) _ 3 ?hg (N := 45) ?hd (xs := ([t500, t501, t502, t503] : List Int)) (inner := [.int .i64 t500, .int .i64 t501, .int .i64 t502, .int .i64 t503]) (ok := fun _ => True) (okp := fun _ => True) ?hr ?hp (fun _ hk => hk) trivial (Below.refl _ _) (Nat.le_refl _) (by simp) ?_; (case hd => rfl); (case hg => rfl); (case hr => first | (go_simp; done) | (go_simp; rfl)); (case hp => exact (Reps.one (show Kd.M (Kd.int .i64) _ _ _ t500 [.int .i64 t500] from rfl) (Reps.one (show Kd.M (Kd.int .i64) _ _ _ t501 [.int .i64 t501] from rfl) (Reps.one (show Kd.M (Kd.int .i64) _ _ _ t502 [.int .i64 t502] from rfl) (Reps.one (show Kd.M (Kd.int .i64) _ _ _ t503 [.int .i64 t503] from rfl) (Reps.none _ _))))))
 intro v505 w20 ho21 hb hg_ hnew_
 clear hg_ hnew_
 (first | rw [← Ny504.out] at ho21 | (simp only [Int.reduceToNat] at ho21; rw [← Ny504.out] at ho21))
 have HO506 := aM (Kd.R_lower ho21 (below_size (bX1 HB.out GE499.out)))
 replace BK499 := aM (bbX BK499.out hb)
 replace HB := aM (below_step (bX1 HB.out GE499.out) hb)
 clear hb ho21
 obtain ⟨Ao22, co22, eo22⟩ := Kd.R_slice HO506.out
 (first | subst eo22 | (injection eo22 with f1_ f2_ f3_; have f4_ := f1_.symm; have f5_ := f3_.symm; clear f1_ f2_ f3_; subst f4_; subst f5_))
 refine hK.out _ _ ⟨cz20 BK499.out, cz21 BK499.out⟩ (fun hHeld => ?_)
 clear hK K
 refine norm_ (a' := ?_) ?_ ?_
 rotate_left
 {
 show Act.put _ (some 45) _ = _
 simp only [Act.put, zA, zB, zC, i64_w, i32_w]
 rfl
 }
 refine pX 29 46 (fl 31 2147483647) rfl rfl HT_.out ?_
 refine done_ (done_of HT_.out (by kernel_rfl)) ?_
 try go_wp2
 go_loopg [3, 47] k1 (fun kq v3 v47 w' => ∃ (x3_2 : Int) (x47_2 : Int), v3 = .int .i64 x3_2 ∧ v47 = .int .i64 x47_2 ∧ Aside0 (i_CountWalls.l1 kq l0 x3_2 l0 (l0.length : Int) x13_1 y504 (y504.length : Int) x47_2 = some r) ∧ Aside0 (kq ≤ k1) ∧ Aside0 (Kd.R (Kd.int .i64) 3 w' w.heap.size (fun _ => True) (.slice Ao22 y504.length co22) y504) ∧ Aside0 (w'.heap[gb499]? = some (.cells #[.int .i64 ((rd_T41 l0 x13_1).f0), .int .i64 ((rd_T41 l0 x13_1).f1)] 41 (0, 0))) ∧ Aside0 (Below w.heap.size w w'))
 case atStart => exact ⟨(x3_1), (0), vX, vX, H', ⟨Nat.le_refl _⟩, ⟨rX HO506.out⟩, ⟨kX BK499.out⟩, ⟨bX1 HB.out GE499.out⟩⟩
 case round =>
 clear H'
 try clear c3
 try clear c5
 try clear c5b0
 try clear c6
 try clear c6b0
 try clear c7
 try clear c7b0
 try clear hcz13_0
 try clear hcz13_1
 try clear hfz13_0
 try clear hfz13_1
 try clear hx498_0
 try clear hx498_1
 try clear p498
 try clear q498
 obtain ⟨x3_2, x47_2, rfl, rfl, HA, HK2, HO_45, BK499, HB⟩ := hrel
 cases gk with
 | zero => exact absurd HA.out (by simp [i_CountWalls.l1])
 | succ k2 =>
 have H := HA.out
 clear HA
 simp only [i_CountWalls.l1] at H
 by_cases c23 : x47_2 < (y504.length : Int)
 {
 rw [if_pos c23] at H
 have c23b0 : decide (x47_2 < (y504.length : Int)) = true := decide_eq_true c23
 clear c23
 by_cases c24 : 0 ≤ x47_2
 {
 rw [if_pos c24] at H
 have c24b0 : decide (0 ≤ x47_2) = true := decide_eq_true c24
 clear c24
 by_cases c25 : x47_2 < (y504.length : Int)
 {
 rw [if_pos c25] at H
 have c25b0 : decide (x47_2 < (y504.length : Int)) = true := decide_eq_true c25
 clear c25
 by_cases c26 : (rd y504 x47_2) < 0
 {
 rw [if_pos c26] at H
 have c26b0 : decide ((rd y504 x47_2) < 0) = true := decide_eq_true c26
 clear c26
 have H' := aM H
 clear H
 have p507 : 0 ≤ (x47_2 : Int) := dX
 have q507 : x47_2 < (y504.length : Int) := dX
 obtain ⟨ad507, e507, hx507_0⟩ := Kd.at_int (Kd.R_reads' HO_45.out).2.2 x47_2 p507 q507
 cases e507
 replace p507 := eq_true p507
 replace q507 := eq_true q507
 go_wp2
 go_roundg k2
 case measure => have := HK1.out; have := HK2.out; omega
 case rel => exact ⟨(wrap64 (x3_2 + 1)), (wrap64 (x47_2 + 1)), vX, vX, H', ⟨by have := HK1.out; have := HK2.out; omega⟩, ⟨rX HO_45.out⟩, ⟨kX BK499.out⟩, ⟨bX1 HB.out GE499.out⟩⟩
 }
 {
 rw [if_neg c26] at H
 have c26b0 : decide ((rd y504 x47_2) < 0) = false := decide_eq_false c26
 clear c26
 have H' := aM H
 clear H
 have p507 : 0 ≤ (x47_2 : Int) := dX
 have q507 : x47_2 < (y504.length : Int) := dX
 obtain ⟨ad507, e507, hx507_0⟩ := Kd.at_int (Kd.R_reads' HO_45.out).2.2 x47_2 p507 q507
 cases e507
 replace p507 := eq_true p507
 replace q507 := eq_true q507
 go_wp2
 go_roundg k2
 case measure => have := HK1.out; have := HK2.out; omega
 case rel => exact ⟨(x3_2), (wrap64 (x47_2 + 1)), vX, vX, H', ⟨by have := HK1.out; have := HK2.out; omega⟩, ⟨rX HO_45.out⟩, ⟨kX BK499.out⟩, ⟨bX1 HB.out GE499.out⟩⟩
 }
 }
 {
 rw [if_neg c25] at H
 exact absurd H (by simp)
 }
 }
 {
 rw [if_neg c24] at H
 exact absurd H (by simp)
 }
 }
 {
 rw [if_neg c23] at H
 have c23b0 : decide (x47_2 < (y504.length : Int)) = false := decide_eq_false c23
 clear c23
 have H' := aM H
 clear H
 go_wp2
 go_roundg k2
 case measure => have := HK1.out; have := HK2.out; omega
 case rel => exact ⟨(x3_2), (wrap64 (x13_1 + 1)), vX, vX, H', ⟨by have := HK1.out; have := HK2.out; omega⟩, ⟨bX1 HB.out GE499.out⟩⟩
 }
 }
 {
 rw [if_neg c7] at H
 exact absurd H (by simp)
 }
 }
 {
 rw [if_neg c6] at H
 exact absurd H (by simp)
 }
 }
 {
 rw [if_neg c5] at H
 have c5b0 : decide (x13_1 < (l0.length : Int)) = false := decide_eq_false c5
 clear c5
 obtain rfl := Option.some.inj H
 go_wp2
 go_ret
 exact ⟨eX, bX HB.out⟩
 }
 }
 {
 replace c3 := Bool.eq_false_iff.mpr c3
 subst c3
 have H1 : (some (-1)) = some r := by rw [if_neg (show ¬ (false = true) by decide)] at H; exact H
 clear H
 have H := H1
 clear H1
 obtain rfl := Option.some.inj H
 go_enter Try.func11, Try.ntmps11
 go_wp2_with (first | ((with_reducible refine gate_callee (f := 7) rfl ?_); refine goesL_ (some 9) rfl rfl Try.func7 (by kernel_rfl) rfl #[.slice A0 l0.length c0] rfl aX ?_; (with_reducible refine (i_TableOk.calls k _ _ l0 false _ ?side1 ?side2 A2.out).mono ?_); (case side1 => exact cX HR0.out); (case side2 => exact HC0.out); rintro e w27 ⟨rfl, hb⟩; refine ⟨_, rfl, ?_⟩; replace HB := aM (below_step (bX HB.out) hb); (try clear hb); (try clear hb2); (try clear hk); (try clear hi)))
 go_ret
 exact ⟨eX, bX HB.out⟩
 }

end Go.Proofs.Ytlbhjemkjkdndaa.S
