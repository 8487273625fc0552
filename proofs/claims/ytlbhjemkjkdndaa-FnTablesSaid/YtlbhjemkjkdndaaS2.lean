-- PRINTED by print.py (a twelfth state) out of the translation. Not trusted: Lean checks it.
import Derived.Test.YtlbhjemkjkdndaaS0
namespace Go.Proofs.Ytlbhjemkjkdndaa.S
set_option maxHeartbeats 8000000
set_option maxRecDepth 100000
open Go.RowKit Go.Proofs.YtlbhjemkjkdndaaW.PrintWords Go.Proofs.YtlbhjemkjkdndaaW.PrintLast Go.Proofs.YtlbhjemkjkdndaaW.PrintMore
attribute [local go_sem] max2_int min2_int max_two min_two max_three min_three max_four min_four   -- for this text's walks alone
set_option linter.unusedVariables false
set_option linter.unusedSimpArgs false

/-- A state of type 55 at block g of W; what its slices lead to came in by w0. -/
def IsS55 (w0 W : World) (g : Nat) (f0 : List Int) (f1 : Int) (f2 : Int) : Prop := ∃ A0 c0, W.heap[g]? = some (.cells #[.slice A0 f0.length c0, .int .i64 f1, .int .i64 f2] 55 (0, 0)) ∧ w0.heap.size ≤ g ∧ Kd.C (Kd.int .u8) w0 A0 f0.length f0
theorem IsS55.grown {w0 W : World} {g : Nat} {f0 : List Int} {f1 : Int} {f2 : Int} {W1 : World} {row : Option Nat} (h : IsS55 w0 W g f0 f1 f2) (hw : W.grownBy W1 row) (hne : some g ≠ row) : IsS55 w0 W1 g f0 f1 f2 := by
 obtain ⟨A0, c0, hb, hg, hr0⟩ := h
 exact ⟨A0, c0, blk_grown hb hw hne, hg, hr0⟩
theorem IsS55.own_neN {w0 W : World} {g : Nat} {f0 : List Int} {f1 : Int} {f2 : Int} {α : Type} {d : Kd α} {e : Nat} {base : Nat} {ok : Nat → Prop} {v : Value} {xs : List α} (h : IsS55 w0 W g f0 f1 f2) (ho : Kd.N d e W base ok v xs) (ht : e ≠ 55) : some g ≠ v.ownBlock := by
 obtain ⟨A0, c0, hb, hg, hr0⟩ := h
 exact Kd.N_ne ho hb ht
theorem IsS55.fresh {w0 W : World} {g : Nat} {f0 : List Int} {f1 : Int} {f2 : Int} (h : IsS55 w0 W g f0 f1 f2) : ∀ k, W.heap.size ≤ k → k ≠ g := by
 obtain ⟨A0, c0, hb, hg, hr0⟩ := h
 exact Kd.freshB hb
theorem IsS55.kept {w0 W : World} {g : Nat} {f0 : List Int} {f1 : Int} {f2 : Int} {W1 : World} {S : Nat → Prop} (h : IsS55 w0 W g f0 f1 f2) (hk : Kept W W1 S) (hne : ¬ S g) : IsS55 w0 W1 g f0 f1 f2 := by
 obtain ⟨A0, c0, hb, hg, hr0⟩ := h
 exact ⟨A0, c0, blk_kept hb hk hne, hg, hr0⟩
theorem IsS55.below {w0 W : World} {g : Nat} {f0 : List Int} {f1 : Int} {f2 : Int} {W1 : World} (h : IsS55 w0 W g f0 f1 f2) (hw : Below W.heap.size W W1) : IsS55 w0 W1 g f0 f1 f2 := h.grown (grown_of_below hw none) (by simp)
theorem IsS55.alloc {w0 W : World} {g : Nat} {f0 : List Int} {f1 : Int} {f2 : Int} (h : IsS55 w0 W g f0 f1 f2) (o : Obj) : IsS55 w0 (W.alloc o) g f0 f1 f2 := h.below (below_alloc (Below.refl _ _) o)
theorem IsS55.drewN {w0 W : World} {g : Nat} {f0 : List Int} {f1 : Int} {f2 : Int} (h : IsS55 w0 W g f0 f1 f2) (m : Nat) : IsS55 w0 (W.drewN m) g f0 f1 f2 := h
theorem IsS55.drew {w0 W : World} {g : Nat} {f0 : List Int} {f1 : Int} {f2 : Int} (h : IsS55 w0 W g f0 f1 f2) : IsS55 w0 W.drew g f0 f1 f2 := h
theorem IsS55.at_ {w0 W : World} {g : Nat} {f0 : List Int} {f1 : Int} {f2 : Int} {w' : World} {m : Nat} (hq : W.drewN m = w') (h : IsS55 w0 W g f0 f1 f2) : IsS55 w0 w' g f0 f1 f2 := by subst hq; exact IsS55.drewN h m
theorem IsS55.apart {w0 W : World} {g : Nat} {f0 : List Int} {f1 : Int} {f2 : Int} {α : Type} {d : Kd α} {e : Nat} {base : Nat} {ok : Nat → Prop} {v : Value} {xs : List α} (h : IsS55 w0 W g f0 f1 f2) (ho : d.R e W base ok v xs) (ht : ∀ q, q ∈ e :: d.E → q ≠ 55) : d.R e W base (fun k => ok k ∧ k ≠ g) v xs := by
 obtain ⟨A0, c0, hb, hg, hr0⟩ := h
 exact Kd.R_types ho hb ht
theorem IsS55.own_ne {w0 W : World} {g : Nat} {f0 : List Int} {f1 : Int} {f2 : Int} {α : Type} {d : Kd α} {e : Nat} {base : Nat} {ok : Nat → Prop} {v : Value} {xs : List α} (h : IsS55 w0 W g f0 f1 f2) (ho : d.R e W base ok v xs) (ht : e ≠ 55) : some g ≠ v.ownBlock := by
 obtain ⟨A0, c0, hb, hg, hr0⟩ := h
 exact Kd.R_ne ho hb ht
theorem IsS55.apartQ {w0 W : World} {g : Nat} {f0 : List Int} {f1 : Int} {f2 : Int} {α : Type} {d : Kd α} {e : Nat} {base : Nat} {ok : Nat → Prop} {v : Value} {xs : List α} (h : IsS55 w0 W g f0 f1 f2) (ho : d.Q e W base ok v xs) (ht : ∀ q, q ∈ e :: d.E → q ≠ 55) : d.Q e W base (fun k => ok k ∧ k ≠ g) v xs := by
 obtain ⟨A0, c0, hb, hg, hr0⟩ := h
 exact Kd.Q_types ho hb ht
theorem IsS55.own_neQ {w0 W : World} {g : Nat} {f0 : List Int} {f1 : Int} {f2 : Int} {α : Type} {d : Kd α} {e : Nat} {base : Nat} {ok : Nat → Prop} {v : Value} {xs : List α} (h : IsS55 w0 W g f0 f1 f2) (ho : d.Q e W base ok v xs) (ht : e ≠ 55) : some g ≠ v.ownBlock := by
 obtain ⟨A0, c0, hb, hg, hr0⟩ := h
 exact Kd.Q_ne ho hb ht
theorem IsS55.apartS {w0 W : World} {g : Nat} {f0 : List Int} {f1 : Int} {f2 : Int} {α : Type} {d : Kd α} {e : Nat} {base : Nat} {ok : Nat → Prop} {v : Value} {xs : List α} (h : IsS55 w0 W g f0 f1 f2) (ho : d.S e W base ok v xs) (ht : ∀ q, q ∈ e :: d.E → q ≠ 55) : d.S e W base (fun k => ok k ∧ k ≠ g) v xs := by
 obtain ⟨A0, c0, hb, hg, hr0⟩ := h
 exact Kd.S_types ho hb ht
theorem IsS55.own_neS {w0 W : World} {g : Nat} {f0 : List Int} {f1 : Int} {f2 : Int} {α : Type} {d : Kd α} {e : Nat} {base : Nat} {ok : Nat → Prop} {v : Value} {xs : List α} (h : IsS55 w0 W g f0 f1 f2) (ho : d.S e W base ok v xs) (ht : e ≠ 55) : some g ≠ v.ownBlock := by
 obtain ⟨A0, c0, hb, hg, hr0⟩ := h
 exact Kd.S_ne ho hb ht
theorem IsS55.lt {w0 W : World} {g : Nat} {f0 : List Int} {f1 : Int} {f2 : Int} (h : IsS55 w0 W g f0 f1 f2) : g < W.heap.size := by
 obtain ⟨A0, c0, hb, hg, hr0⟩ := h
 exact blk_lt hb
theorem IsS55.ge {w0 W : World} {g : Nat} {f0 : List Int} {f1 : Int} {f2 : Int} (h : IsS55 w0 W g f0 f1 f2) : w0.heap.size ≤ g := by
 obtain ⟨A0, c0, hb, hg, hr0⟩ := h
 exact hg
theorem IsS55.ne_blk {w0 W : World} {g : Nat} {f0 : List Int} {f1 : Int} {f2 : Int} {a : Nat} {cs : Array Value} {t : TypeId} {fr : Nat × Nat} (h : IsS55 w0 W g f0 f1 f2) (hb2 : W.heap[a]? = some (.cells cs t fr)) (ht : t ≠ 55) : g ≠ a := by
 obtain ⟨A0, c0, hb, hg, hr0⟩ := h
 rintro rfl
 rw [hb] at hb2
 injection hb2 with hb2
 injection hb2 with _ ht2
 exact ht ht2.symm
theorem IsS55.far {w0 W : World} {g : Nat} {f0 : List Int} {f1 : Int} {f2 : Int} {p : Addr} (h : IsS55 w0 W g f0 f1 f2) (hne : g ≠ p.block) (u : Value) : IsS55 w0 (W.setCell p u) g f0 f1 f2 := by
 obtain ⟨A0, c0, hb, hg, hr0⟩ := h
 exact ⟨A0, c0, blk_far hb hne u, hg, hr0⟩
theorem cellS55_0 {W : World} {g : Nat} {A0 : Option Addr} {c0 : Nat} {f0 : List Int} {f1 : Int} {f2 : Int} (h : W.heap[g]? = some (.cells #[.slice A0 f0.length c0, .int .i64 f1, .int .i64 f2] 55 (0, 0))) : W.cell? ⟨g, 0, none⟩ = some (.slice A0 f0.length c0) := (blk_cell h 0).trans rfl
theorem cellS55_1 {W : World} {g : Nat} {A0 : Option Addr} {c0 : Nat} {f0 : List Int} {f1 : Int} {f2 : Int} (h : W.heap[g]? = some (.cells #[.slice A0 f0.length c0, .int .i64 f1, .int .i64 f2] 55 (0, 0))) : W.cell? ⟨g, 1, none⟩ = some (.int .i64 f1) := (blk_cell h 1).trans rfl
theorem IsS55.set_1 {w0 W : World} {g : Nat} {f0 : List Int} {f1 : Int} {f2 : Int} (h : IsS55 w0 W g f0 f1 f2) (x : Int) : IsS55 w0 (W.setCell ⟨g, 1, none⟩ (.int .i64 x)) g f0 x f2 := by
 obtain ⟨A0, c0, hb, hg, hr0⟩ := h
 exact ⟨A0, c0, by simpa using blk_set hb 1 (.int .i64 x), hg, hr0⟩
theorem cellS55_2 {W : World} {g : Nat} {A0 : Option Addr} {c0 : Nat} {f0 : List Int} {f1 : Int} {f2 : Int} (h : W.heap[g]? = some (.cells #[.slice A0 f0.length c0, .int .i64 f1, .int .i64 f2] 55 (0, 0))) : W.cell? ⟨g, 2, none⟩ = some (.int .i64 f2) := (blk_cell h 2).trans rfl
theorem IsS55.set_2 {w0 W : World} {g : Nat} {f0 : List Int} {f1 : Int} {f2 : Int} (h : IsS55 w0 W g f0 f1 f2) (x : Int) : IsS55 w0 (W.setCell ⟨g, 2, none⟩ (.int .i64 x)) g f0 f1 x := by
 obtain ⟨A0, c0, hb, hg, hr0⟩ := h
 exact ⟨A0, c0, by simpa using blk_set hb 2 (.int .i64 x), hg, hr0⟩
theorem IsS55.new (w0 W : World) (A0 : Option Addr) (c0 : Nat) (f0 : List Int) (f1 : Int) (f2 : Int) (hB : Below w0.heap.size w0 W) (hr0 : Kd.C (Kd.int .u8) w0 A0 f0.length f0) : IsS55 w0 (W.alloc (.cells #[.slice A0 f0.length c0, .int .i64 f1, .int .i64 f2] 55)) W.heap.size f0 f1 f2 := ⟨A0, c0, by simpa using heap_alloc_new W _, hB.size, hr0⟩

/-! ### s_l01Byte: function 35 -/
def s_l01Byte.f (s0_0 : List Int) (s0_1 : Int) (s0_2 : Int) : Option (Int × Int × Int) := if s0_1 < (s0_0.length : Int) then (if 0 ≤ s0_1 then (some (Go.bits .and .i64 (wrap64 ((Go.bits .and .i64 (Go.bits .xor .i64 ((wrap64 ((wrap64 (s0_2 * 6364136223846793005)) + 1442695040888963407)) / 8589934592) ((wrap64 ((wrap64 (s0_2 * 6364136223846793005)) + 1442695040888963407)) / 35184372088832)) 255) + (wrap64 (rd s0_0 s0_1)))) 255, wrap64 (s0_1 + 1), wrap64 ((wrap64 (s0_2 * 6364136223846793005)) + 1442695040888963407))) else (none)) else (some (Go.bits .and .i64 (Go.bits .xor .i64 ((wrap64 ((wrap64 (s0_2 * 6364136223846793005)) + 1442695040888963407)) / 8589934592) ((wrap64 ((wrap64 (s0_2 * 6364136223846793005)) + 1442695040888963407)) / 35184372088832)) 255, s0_1, wrap64 ((wrap64 (s0_2 * 6364136223846793005)) + 1442695040888963407)))
theorem s_l01Byte.calls (g : Nat) (s0_0 : List Int) (s0_1 : Int) (s0_2 : Int) (r1 : Int) (r2 : Int) (r3 : Int) (w0 w : World) (hI : IsS55 w0 w g s0_0 s0_1 s0_2) (hB : Below w0.heap.size w0 w) (h : s_l01Byte.f s0_0 s0_1 s0_2 = some (r1, r2, r3)) :
  Calls Try.prog 35 #[.pointer (some ⟨g, 0, none⟩)] w fun e w' => e = .returned (.int .i64 r1) ∧ IsS55 w0 w' g s0_0 r2 r3 ∧ Below w0.heap.size w0 w' ∧ KeepBut w w' g none := by
 have HI0 := aM hI
 have HK := aM (KeepBut.refl w g none)
 have HL := aM hB.size
 clear hI
 have HW0 := aM hB.size
 have HB := aM hB
 clear hB
 have H : (if s0_1 < (s0_0.length : Int) then (if 0 ≤ s0_1 then (some (Go.bits .and .i64 (wrap64 ((Go.bits .and .i64 (Go.bits .xor .i64 ((wrap64 ((wrap64 (s0_2 * 6364136223846793005)) + 1442695040888963407)) / 8589934592) ((wrap64 ((wrap64 (s0_2 * 6364136223846793005)) + 1442695040888963407)) / 35184372088832)) 255) + (wrap64 (rd s0_0 s0_1)))) 255, wrap64 (s0_1 + 1), wrap64 ((wrap64 (s0_2 * 6364136223846793005)) + 1442695040888963407))) else (none)) else (some (Go.bits .and .i64 (Go.bits .xor .i64 ((wrap64 ((wrap64 (s0_2 * 6364136223846793005)) + 1442695040888963407)) / 8589934592) ((wrap64 ((wrap64 (s0_2 * 6364136223846793005)) + 1442695040888963407)) / 35184372088832)) 255, s0_1, wrap64 ((wrap64 (s0_2 * 6364136223846793005)) + 1442695040888963407)))) = some (r1, r2, r3) := h
 clear h
 by_cases c2 : s0_1 < (s0_0.length : Int)
 {
 rw [if_pos c2] at H
 have c2b0 : decide (s0_1 < (s0_0.length : Int)) = true := decide_eq_true c2
 clear c2
 by_cases c3 : 0 ≤ s0_1
 {
 rw [if_pos c3] at H
 have c3b0 : decide (0 ≤ s0_1) = true := decide_eq_true c3
 clear c3
 simp only [Option.some.injEq, Prod.mk.injEq] at H
 obtain ⟨rfl, rfl, rfl⟩ := H
 obtain ⟨ASz4_0, cSz4_0, HGz4, hgz4, HSz4_0⟩ := HI0.out
 have hcz4_0 := cellS55_0 HGz4
 have hcz4_1 := cellS55_1 HGz4
 have hcz4_2 := cellS55_2 HGz4
 have hfz4_1 := blk_frozen HGz4 1
 have hfz4_2 := blk_frozen HGz4 2
 clear HGz4 hgz4
 have p101 : 0 ≤ (s0_1 : Int) := dX
 have q101 : s0_1 < (s0_0.length : Int) := dX
 obtain ⟨ad101, e101, hx101_0⟩ := Kd.at_int HSz4_0 s0_1 p101 q101
 cases e101
 have hn101_0 : ad101.block ≠ g := Nat.ne_of_lt (Nat.lt_of_lt_of_le (by have := World.block_lt_of_cell? _ _ hx101_0; first | rwa [add_block] at this | exact this) (IsS55.ge HI0.out))
 replace hx101_0 := pw_cell_below HB.out hx101_0
 replace hx101_0 := (cell_far (p := ⟨g, 2, none⟩) (by first | (rw [add_block]; exact hn101_0) | (show (Addr.add _ _).block ≠ _; rw [add_block]; exact hn101_0) | exact hn101_0) (.int .i64 (wrap64 ((wrap64 (s0_2 * 6364136223846793005)) + 1442695040888963407)))).trans hx101_0
 (try have hy101_0 := fun (n_ : Nat) => (show (((w.drewN n_).setCell ⟨g, 2, none⟩ (.int .i64 (wrap64 ((wrap64 (s0_2 * 6364136223846793005)) + 1442695040888963407))))).cell? _ = some _ from hx101_0))
 clear hn101_0
 replace p101 := eq_true p101
 replace q101 := eq_true q101
 go_enter Try.func35, Try.ntmps35
 go_wp2
 repeat (go_quiet (fail); try go_wp2)
 go_ret
 exact ⟨eX, by repeat (first | (with_reducible first | exact HI0.out | apply IsS55.alloc | apply IsS55.drewN | apply IsS55.drew | apply IsS55.set_1 | apply IsS55.set_2) | exact HI0.out), bX1 HB.out (IsS55.ge HI0.out), by repeat (first | (with_reducible first | exact HK.out | apply KeepBut.set_ | apply keep_drewN | apply keep_drew | apply keep_alloc) | exact HK.out)⟩
 }
 {
 rw [if_neg c3] at H
 exact absurd H (by simp)
 }
 }
 {
 rw [if_neg c2] at H
 have c2b0 : decide (s0_1 < (s0_0.length : Int)) = false := decide_eq_false c2
 clear c2
 simp only [Option.some.injEq, Prod.mk.injEq] at H
 obtain ⟨rfl, rfl, rfl⟩ := H
 obtain ⟨ASz5_0, cSz5_0, HGz5, hgz5, HSz5_0⟩ := HI0.out
 have hcz5_0 := cellS55_0 HGz5
 have hcz5_1 := cellS55_1 HGz5
 have hcz5_2 := cellS55_2 HGz5
 have hfz5_1 := blk_frozen HGz5 1
 have hfz5_2 := blk_frozen HGz5 2
 clear HGz5 hgz5
 go_enter Try.func35, Try.ntmps35
 go_wp2
 repeat (go_quiet (fail); try go_wp2)
 go_ret
 exact ⟨eX, by repeat (first | (with_reducible first | exact HI0.out | apply IsS55.alloc | apply IsS55.drewN | apply IsS55.drew | apply IsS55.set_1 | apply IsS55.set_2) | exact HI0.out), bX1 HB.out (IsS55.ge HI0.out), by repeat (first | (with_reducible first | exact HK.out | apply KeepBut.set_ | apply keep_drewN | apply keep_drew | apply keep_alloc) | exact HK.out)⟩
 }

/-! ### s_l01Below: function 25 -/
def s_l01Below.f (s0_0 : List Int) (s0_1 : Int) (s0_2 : Int) (a1 : Int) : Option (Int × Int × Int) := if a1 ≤ 0 then (some (0, s0_1, s0_2)) else (if a1 ≤ 256 then ((s_l01Byte.f s0_0 s0_1 s0_2).bind fun bt102 => (if a1 = 0 then (none) else (some (Int.tmod bt102.1 a1, bt102.2.1, bt102.2.2)))) else ((s_l01Byte.f s0_0 s0_1 s0_2).bind fun bt105 => ((s_l01Byte.f s0_0 bt105.2.1 bt105.2.2).bind fun bt108 => ((s_l01Byte.f s0_0 bt108.2.1 bt108.2.2).bind fun bt111 => ((s_l01Byte.f s0_0 bt111.2.1 bt111.2.2).bind fun bt114 => (if a1 = 0 then (none) else (some (Int.tmod (wrap64 ((wrap64 ((wrap64 ((wrap64 (bt105.1 * 16777216)) + (wrap64 (bt108.1 * 65536)))) + (wrap64 (bt111.1 * 256)))) + bt114.1)) a1, bt114.2.1, bt114.2.2))))))))
theorem s_l01Below.calls (g : Nat) (s0_0 : List Int) (s0_1 : Int) (s0_2 : Int) (a1 : Int) (r1 : Int) (r2 : Int) (r3 : Int) (w0 w : World) (hI : IsS55 w0 w g s0_0 s0_1 s0_2) (hB : Below w0.heap.size w0 w) (h : s_l01Below.f s0_0 s0_1 s0_2 a1 = some (r1, r2, r3)) :
  Calls Try.prog 25 #[.pointer (some ⟨g, 0, none⟩), .int .i64 a1] w fun e w' => e = .returned (.int .i64 r1) ∧ IsS55 w0 w' g s0_0 r2 r3 ∧ Below w0.heap.size w0 w' ∧ KeepBut w w' g none := by
 have HI0 := aM hI
 have HK := aM (KeepBut.refl w g none)
 have HL := aM hB.size
 clear hI
 have HW0 := aM hB.size
 have HB := aM hB
 clear hB
 have H : (if a1 ≤ 0 then (some (0, s0_1, s0_2)) else (if a1 ≤ 256 then ((s_l01Byte.f s0_0 s0_1 s0_2).bind fun bt102 => (if a1 = 0 then (none) else (some (Int.tmod bt102.1 a1, bt102.2.1, bt102.2.2)))) else ((s_l01Byte.f s0_0 s0_1 s0_2).bind fun bt105 => ((s_l01Byte.f s0_0 bt105.2.1 bt105.2.2).bind fun bt108 => ((s_l01Byte.f s0_0 bt108.2.1 bt108.2.2).bind fun bt111 => ((s_l01Byte.f s0_0 bt111.2.1 bt111.2.2).bind fun bt114 => (if a1 = 0 then (none) else (some (Int.tmod (wrap64 ((wrap64 ((wrap64 ((wrap64 (bt105.1 * 16777216)) + (wrap64 (bt108.1 * 65536)))) + (wrap64 (bt111.1 * 256)))) + bt114.1)) a1, bt114.2.1, bt114.2.2))))))))) = some (r1, r2, r3) := h
 clear h
 by_cases c3 : a1 ≤ 0
 {
 rw [if_pos c3] at H
 have c3b0 : decide (a1 ≤ 0) = true := decide_eq_true c3
 clear c3
 simp only [Option.some.injEq, Prod.mk.injEq] at H
 obtain ⟨rfl, rfl, rfl⟩ := H
 go_enter Try.func25, Try.ntmps25
 go_wp2
 go_ret
 exact ⟨eX, by repeat (first | (with_reducible first | exact HI0.out | apply IsS55.alloc | apply IsS55.drewN | apply IsS55.drew | apply IsS55.set_1 | apply IsS55.set_2) | exact HI0.out), bX1 HB.out (IsS55.ge HI0.out), by repeat (first | (with_reducible first | exact HK.out | apply KeepBut.set_ | apply keep_drewN | apply keep_drew | apply keep_alloc) | exact HK.out)⟩
 }
 {
 rw [if_neg c3] at H
 have c3b0 : decide (a1 ≤ 0) = false := decide_eq_false c3
 clear c3
 by_cases c4 : a1 ≤ 256
 {
 rw [if_pos c4] at H
 have c4b0 : decide (a1 ≤ 256) = true := decide_eq_true c4
 clear c4
 replace H := oB H
 obtain ⟨⟨t102, t103, t104⟩, A50, H⟩ := H
 replace H : (if a1 = 0 then (none) else (some (Int.tmod t102 a1, t103, t104))) = some (r1, r2, r3) := H
 have A5 := aM A50
 clear A50
 by_cases c6 : a1 = 0
 {
 rw [if_pos c6] at H
 exact absurd H (by simp)
 }
 {
 rw [if_neg c6] at H
 have c6b0 : (a1 == 0) = false := beq_eq_false_iff_ne.mpr c6
 have c6b1 : (a1 != 0) = true := bne_iff_ne.mpr c6
 simp only [Option.some.injEq, Prod.mk.injEq] at H
 obtain ⟨rfl, rfl, rfl⟩ := H
 go_enter Try.func25, Try.ntmps25
 go_wp2_with (first | ((with_reducible refine gate_callee (f := 35) rfl ?_); refine goesL_ (some 14) rfl rfl Try.func35 (by kernel_rfl) rfl #[.pointer (some ⟨g, 0, none⟩)] rfl aX ?_; (with_reducible refine (s_l01Byte.calls g s0_0 s0_1 s0_2 t102 t103 t104 w0 _ ?side1 ?side2 A5.out).mono ?_); (case side1 => repeat (first | (with_reducible first | exact HI0.out | apply IsS55.alloc | apply IsS55.drewN | apply IsS55.drew | apply IsS55.set_1 | apply IsS55.set_2) | exact HI0.out)); (case side2 => repeat (first | (with_reducible first | exact HB.out|apply bA|apply bN|apply bD | refine below_set ?_ (IsS55.ge HI0.out)) | exact HB.out)); rintro e w7 ⟨rfl, hi, hb, hk⟩; refine ⟨_, rfl, ?_⟩; replace HK := aM (KeepBut.trans (by repeat (first | (with_reducible first | exact HK.out | apply KeepBut.set_ | apply keep_drewN | apply keep_drew | apply keep_alloc) | exact HK.out)) hk (.inl rfl)); replace HB := aM (hb); replace HI0 := aM (hi); (try clear hb); (try clear hb2); (try clear hk); (try clear hi)))
 go_ret
 exact ⟨eX, by repeat (first | (with_reducible first | exact HI0.out | apply IsS55.alloc | apply IsS55.drewN | apply IsS55.drew | apply IsS55.set_1 | apply IsS55.set_2) | exact HI0.out), bX1 HB.out (IsS55.ge HI0.out), by repeat (first | (with_reducible first | exact HK.out | apply KeepBut.set_ | apply keep_drewN | apply keep_drew | apply keep_alloc) | exact HK.out)⟩
 }
 }
 {
 rw [if_neg c4] at H
 have c4b0 : decide (a1 ≤ 256) = false := decide_eq_false c4
 clear c4
 replace H := oB H
 obtain ⟨⟨t105, t106, t107⟩, A80, H⟩ := H
 replace H : ((s_l01Byte.f s0_0 t106 t107).bind fun bt108 => ((s_l01Byte.f s0_0 bt108.2.1 bt108.2.2).bind fun bt111 => ((s_l01Byte.f s0_0 bt111.2.1 bt111.2.2).bind fun bt114 => (if a1 = 0 then (none) else (some (Int.tmod (wrap64 ((wrap64 ((wrap64 ((wrap64 (t105 * 16777216)) + (wrap64 (bt108.1 * 65536)))) + (wrap64 (bt111.1 * 256)))) + bt114.1)) a1, bt114.2.1, bt114.2.2)))))) = some (r1, r2, r3) := H
 have A8 := aM A80
 clear A80
 replace H := oB H
 obtain ⟨⟨t108, t109, t110⟩, A90, H⟩ := H
 replace H : ((s_l01Byte.f s0_0 t109 t110).bind fun bt111 => ((s_l01Byte.f s0_0 bt111.2.1 bt111.2.2).bind fun bt114 => (if a1 = 0 then (none) else (some (Int.tmod (wrap64 ((wrap64 ((wrap64 ((wrap64 (t105 * 16777216)) + (wrap64 (t108 * 65536)))) + (wrap64 (bt111.1 * 256)))) + bt114.1)) a1, bt114.2.1, bt114.2.2))))) = some (r1, r2, r3) := H
 have A9 := aM A90
 clear A90
 replace H := oB H
 obtain ⟨⟨t111, t112, t113⟩, A100, H⟩ := H
 replace H : ((s_l01Byte.f s0_0 t112 t113).bind fun bt114 => (if a1 = 0 then (none) else (some (Int.tmod (wrap64 ((wrap64 ((wrap64 ((wrap64 (t105 * 16777216)) + (wrap64 (t108 * 65536)))) + (wrap64 (t111 * 256)))) + bt114.1)) a1, bt114.2.1, bt114.2.2)))) = some (r1, r2, r3) := H
 have A10 := aM A100
 clear A100
 replace H := oB H
 obtain ⟨⟨t114, t115, t116⟩, A110, H⟩ := H
 replace H : (if a1 = 0 then (none) else (some (Int.tmod (wrap64 ((wrap64 ((wrap64 ((wrap64 (t105 * 16777216)) + (wrap64 (t108 * 65536)))) + (wrap64 (t111 * 256)))) + t114)) a1, t115, t116))) = some (r1, r2, r3) := H
 have A11 := aM A110
 clear A110
 by_cases c12 : a1 = 0
 {
 rw [if_pos c12] at H
 exact absurd H (by simp)
 }
 {
 rw [if_neg c12] at H
 have c12b0 : (a1 == 0) = false := beq_eq_false_iff_ne.mpr c12
 have c12b1 : (a1 != 0) = true := bne_iff_ne.mpr c12
 simp only [Option.some.injEq, Prod.mk.injEq] at H
 obtain ⟨rfl, rfl, rfl⟩ := H
 go_enter Try.func25, Try.ntmps25
 go_wp2_with (first | ((with_reducible refine gate_callee (f := 35) rfl ?_); refine goesL_ (some 18) rfl rfl Try.func35 (by kernel_rfl) rfl #[.pointer (some ⟨g, 0, none⟩)] rfl aX ?_; (with_reducible refine (s_l01Byte.calls g s0_0 s0_1 s0_2 t105 t106 t107 w0 _ ?side1 ?side2 A8.out).mono ?_); (case side1 => repeat (first | (with_reducible first | exact HI0.out | apply IsS55.alloc | apply IsS55.drewN | apply IsS55.drew | apply IsS55.set_1 | apply IsS55.set_2) | exact HI0.out)); (case side2 => repeat (first | (with_reducible first | exact HB.out|apply bA|apply bN|apply bD | refine below_set ?_ (IsS55.ge HI0.out)) | exact HB.out)); rintro e w13 ⟨rfl, hi, hb, hk⟩; refine ⟨_, rfl, ?_⟩; replace HK := aM (KeepBut.trans (by repeat (first | (with_reducible first | exact HK.out | apply KeepBut.set_ | apply keep_drewN | apply keep_drew | apply keep_alloc) | exact HK.out)) hk (.inl rfl)); replace HB := aM (hb); replace HI0 := aM (hi); (try clear hb); (try clear hb2); (try clear hk); (try clear hi)) | ((with_reducible refine gate_callee (f := 35) rfl ?_); refine goesL_ (some 20) rfl rfl Try.func35 (by kernel_rfl) rfl #[.pointer (some ⟨g, 0, none⟩)] rfl aX ?_; (with_reducible refine (s_l01Byte.calls g s0_0 t106 t107 t108 t109 t110 w0 _ ?side1 ?side2 A9.out).mono ?_); (case side1 => repeat (first | (with_reducible first | exact HI0.out | apply IsS55.alloc | apply IsS55.drewN | apply IsS55.drew | apply IsS55.set_1 | apply IsS55.set_2) | exact HI0.out)); (case side2 => repeat (first | (with_reducible first | exact HB.out|apply bA|apply bN|apply bD | refine below_set ?_ (IsS55.ge HI0.out)) | exact HB.out)); rintro e w14 ⟨rfl, hi, hb, hk⟩; refine ⟨_, rfl, ?_⟩; replace HK := aM (KeepBut.trans (by repeat (first | (with_reducible first | exact HK.out | apply KeepBut.set_ | apply keep_drewN | apply keep_drew | apply keep_alloc) | exact HK.out)) hk (.inl rfl)); replace HB := aM (hb); replace HI0 := aM (hi); (try clear hb); (try clear hb2); (try clear hk); (try clear hi)) | ((with_reducible refine gate_callee (f := 35) rfl ?_); refine goesL_ (some 22) rfl rfl Try.func35 (by kernel_rfl) rfl #[.pointer (some ⟨g, 0, none⟩)] rfl aX ?_; (with_reducible refine (s_l01Byte.calls g s0_0 t109 t110 t111 t112 t113 w0 _ ?side1 ?side2 A10.out).mono ?_); (case side1 => repeat (first | (with_reducible first | exact HI0.out | apply IsS55.alloc | apply IsS55.drewN | apply IsS55.drew | apply IsS55.set_1 | apply IsS55.set_2) | exact HI0.out)); (case side2 => repeat (first | (with_reducible first | exact HB.out|apply bA|apply bN|apply bD | refine below_set ?_ (IsS55.ge HI0.out)) | exact HB.out)); rintro e w15 ⟨rfl, hi, hb, hk⟩; refine ⟨_, rfl, ?_⟩; replace HK := aM (KeepBut.trans (by repeat (first | (with_reducible first | exact HK.out | apply KeepBut.set_ | apply keep_drewN | apply keep_drew | apply keep_alloc) | exact HK.out)) hk (.inl rfl)); replace HB := aM (hb); replace HI0 := aM (hi); (try clear hb); (try clear hb2); (try clear hk); (try clear hi)) | ((with_reducible refine gate_callee (f := 35) rfl ?_); refine goesL_ (some 24) rfl rfl Try.func35 (by kernel_rfl) rfl #[.pointer (some ⟨g, 0, none⟩)] rfl aX ?_; (with_reducible refine (s_l01Byte.calls g s0_0 t112 t113 t114 t115 t116 w0 _ ?side1 ?side2 A11.out).mono ?_); (case side1 => repeat (first | (with_reducible first | exact HI0.out | apply IsS55.alloc | apply IsS55.drewN | apply IsS55.drew | apply IsS55.set_1 | apply IsS55.set_2) | exact HI0.out)); (case side2 => repeat (first | (with_reducible first | exact HB.out|apply bA|apply bN|apply bD | refine below_set ?_ (IsS55.ge HI0.out)) | exact HB.out)); rintro e w16 ⟨rfl, hi, hb, hk⟩; refine ⟨_, rfl, ?_⟩; replace HK := aM (KeepBut.trans (by repeat (first | (with_reducible first | exact HK.out | apply KeepBut.set_ | apply keep_drewN | apply keep_drew | apply keep_alloc) | exact HK.out)) hk (.inl rfl)); replace HB := aM (hb); replace HI0 := aM (hi); (try clear hb); (try clear hb2); (try clear hk); (try clear hi)))
 go_ret
 exact ⟨eX, by repeat (first | (with_reducible first | exact HI0.out | apply IsS55.alloc | apply IsS55.drewN | apply IsS55.drew | apply IsS55.set_1 | apply IsS55.set_2) | exact HI0.out), bX1 HB.out (IsS55.ge HI0.out), by repeat (first | (with_reducible first | exact HK.out | apply KeepBut.set_ | apply keep_drewN | apply keep_drew | apply keep_alloc) | exact HK.out)⟩
 }
 }
 }

/-! ### s_CellAt: function 26 -/
def s_CellAt.l0 : Nat → Int → Int → List (S41) → Int → Int → Option (Int)
 | 0, _, _, _, _, _ => none
 | k + 1, x1, x2, x9, x10, x11 => if x11 < x10 then (if 0 ≤ x11 then (if x11 < (x9.length : Int) then (if ((rd_T41 x9 x11).f0) = x1 then (if ((rd_T41 x9 x11).f1) = x2 then (some x11) else (s_CellAt.l0 k x1 x2 x9 x10 (wrap64 (x11 + 1)))) else (s_CellAt.l0 k x1 x2 x9 x10 (wrap64 (x11 + 1)))) else (none)) else (none)) else (some (-1))
def s_CellAt.f (k : Nat) (l0 : List (S41)) (a1 : Int) (a2 : Int) : Option (Int) := s_CellAt.l0 k a1 a2 l0 (l0.length : Int) 0
theorem s_CellAt.calls (k : Nat) (A0 : Option Addr) (c0 : Nat) (l0 : List (S41)) (a1 : Int) (a2 : Int) (r : Int) (w : World) (hr0 : Kd.C k41 w A0 l0.length l0) (hc0 : l0.length ≤ c0) (h : s_CellAt.f k l0 a1 a2 = some r) :
  Calls Try.prog 26 #[.slice A0 l0.length c0, .int .i64 a1, .int .i64 a2] w fun e w' => e = .returned (.int .i64 r) ∧ Below w.heap.size w w' := by
 have hu41 := Try.underlying41
 have HR0 := aM hr0
 have HC0 := aM hc0
 clear hr0 hc0
 have HB := aM (Below.refl w.heap.size w)
 have H : (s_CellAt.l0 k a1 a2 l0 (l0.length : Int) 0) = some r := h
 clear h
 have H' := aM H
 clear H
 go_enter Try.func26, Try.ntmps26
 go_wp2
 go_loopg [11] k (fun kq v11 w' => ∃ (x11_1 : Int), v11 = .int .i64 x11_1 ∧ Aside0 (s_CellAt.l0 kq a1 a2 l0 (l0.length : Int) x11_1 = some r) ∧ Aside0 (kq ≤ k) ∧ Aside0 (Below w.heap.size w w'))
 case atStart => exact ⟨(0), vX, H', ⟨Nat.le_refl _⟩, ⟨bX HB.out⟩⟩
 case round =>
 clear H'
 obtain ⟨x11_1, rfl, HA, HK1, HB⟩ := hrel
 cases gk with
 | zero => exact absurd HA.out (by simp [s_CellAt.l0])
 | succ k1 =>
 have H := HA.out
 clear HA
 simp only [s_CellAt.l0] at H
 by_cases c4 : x11_1 < (l0.length : Int)
 {
 rw [if_pos c4] at H
 have c4b0 : decide (x11_1 < (l0.length : Int)) = true := decide_eq_true c4
 clear c4
 by_cases c5 : 0 ≤ x11_1
 {
 rw [if_pos c5] at H
 have c5b0 : decide (0 ≤ x11_1) = true := decide_eq_true c5
 clear c5
 by_cases c6 : x11_1 < (l0.length : Int)
 {
 rw [if_pos c6] at H
 have c6b0 : decide (x11_1 < (l0.length : Int)) = true := decide_eq_true c6
 clear c6
 by_cases c7 : ((rd_T41 l0 x11_1).f0) = a1
 {
 rw [if_pos c7] at H
 have c7b0 : (((rd_T41 l0 x11_1).f0) == a1) = true := beq_iff_eq.mpr c7
 have c7b1 : (((rd_T41 l0 x11_1).f0) != a1) = false := bne_eq_false_iff_eq.mpr c7
 clear c7
 by_cases c8 : ((rd_T41 l0 x11_1).f1) = a2
 {
 rw [if_pos c8] at H
 have c8b0 : (((rd_T41 l0 x11_1).f1) == a2) = true := beq_iff_eq.mpr c8
 have c8b1 : (((rd_T41 l0 x11_1).f1) != a2) = false := bne_eq_false_iff_eq.mpr c8
 clear c8
 obtain rfl := Option.some.inj H
 have p117 : 0 ≤ (x11_1 : Int) := dX
 have q117 : x11_1 < (l0.length : Int) := dX
 obtain ⟨ad117, e117, hx117_0, hx117_1⟩ := at_T41 HR0.out x11_1 p117 q117
 cases e117
 replace hx117_0 := (HB.out.cell (World.block_lt_of_cell? w _ hx117_0)).trans hx117_0
 replace hx117_1 := (HB.out.cell (World.block_lt_of_cell? w _ hx117_1)).trans hx117_1
 replace p117 := eq_true p117
 replace q117 := eq_true q117
 go_wp2_with (first | ((with_reducible refine gate_dst (N := 8) rfl ?_); refine bEv (cs := #[.int .i64 0, .int .i64 0]) (t := 41) ?_; intro gb118 hg w9 hbox hb; have BK118 := aM (hbox); have GW118 := aM ((szX (below_size (bX HB.out)) hg : w.heap.size ≤ gb118)); have GE118 := aM ((szX (below_size (bX HB.out)) hg : w.heap.size ≤ gb118)); replace HB := aM (below_step (bX HB.out) hb); clear hb hbox hg; have hcz10_0 : w9.cell? ⟨gb118, 0, none⟩ = some (.int .i64 0) := (blk_cell BK118.out 0).trans rfl; have hcz10_1 : w9.cell? ⟨gb118, 1, none⟩ = some (.int .i64 0) := (blk_cell BK118.out 1).trans rfl; have hfz10_0 := blk_frozen BK118.out 0; have hfz10_1 := blk_frozen BK118.out 1))
 go_ret
 exact ⟨eX, bX1 HB.out GE118.out⟩
 }
 {
 rw [if_neg c8] at H
 have c8b0 : (((rd_T41 l0 x11_1).f1) == a2) = false := beq_eq_false_iff_ne.mpr c8
 have c8b1 : (((rd_T41 l0 x11_1).f1) != a2) = true := bne_iff_ne.mpr c8
 have H' := aM H
 clear H
 have p117 : 0 ≤ (x11_1 : Int) := dX
 have q117 : x11_1 < (l0.length : Int) := dX
 obtain ⟨ad117, e117, hx117_0, hx117_1⟩ := at_T41 HR0.out x11_1 p117 q117
 cases e117
 replace hx117_0 := (HB.out.cell (World.block_lt_of_cell? w _ hx117_0)).trans hx117_0
 replace hx117_1 := (HB.out.cell (World.block_lt_of_cell? w _ hx117_1)).trans hx117_1
 replace p117 := eq_true p117
 replace q117 := eq_true q117
 go_wp2_with (first | ((with_reducible refine gate_dst (N := 8) rfl ?_); refine bEv (cs := #[.int .i64 0, .int .i64 0]) (t := 41) ?_; intro gb118 hg w11 hbox hb; have BK118 := aM (hbox); have GW118 := aM ((szX (below_size (bX HB.out)) hg : w.heap.size ≤ gb118)); have GE118 := aM ((szX (below_size (bX HB.out)) hg : w.heap.size ≤ gb118)); replace HB := aM (below_step (bX HB.out) hb); clear hb hbox hg; have hcz12_0 : w11.cell? ⟨gb118, 0, none⟩ = some (.int .i64 0) := (blk_cell BK118.out 0).trans rfl; have hcz12_1 : w11.cell? ⟨gb118, 1, none⟩ = some (.int .i64 0) := (blk_cell BK118.out 1).trans rfl; have hfz12_0 := blk_frozen BK118.out 0; have hfz12_1 := blk_frozen BK118.out 1))
 go_roundg k1
 case measure => have := HK1.out; omega
 case rel => exact ⟨(wrap64 (x11_1 + 1)), vX, H', ⟨by have := HK1.out; omega⟩, ⟨bX1 HB.out GE118.out⟩⟩
 }
 }
 {
 rw [if_neg c7] at H
 have c7b0 : (((rd_T41 l0 x11_1).f0) == a1) = false := beq_eq_false_iff_ne.mpr c7
 have c7b1 : (((rd_T41 l0 x11_1).f0) != a1) = true := bne_iff_ne.mpr c7
 have H' := aM H
 clear H
 have p117 : 0 ≤ (x11_1 : Int) := dX
 have q117 : x11_1 < (l0.length : Int) := dX
 obtain ⟨ad117, e117, hx117_0, hx117_1⟩ := at_T41 HR0.out x11_1 p117 q117
 cases e117
 replace hx117_0 := (HB.out.cell (World.block_lt_of_cell? w _ hx117_0)).trans hx117_0
 replace hx117_1 := (HB.out.cell (World.block_lt_of_cell? w _ hx117_1)).trans hx117_1
 replace p117 := eq_true p117
 replace q117 := eq_true q117
 go_wp2_with (first | ((with_reducible refine gate_dst (N := 8) rfl ?_); refine bEv (cs := #[.int .i64 0, .int .i64 0]) (t := 41) ?_; intro gb118 hg w13 hbox hb; have BK118 := aM (hbox); have GW118 := aM ((szX (below_size (bX HB.out)) hg : w.heap.size ≤ gb118)); have GE118 := aM ((szX (below_size (bX HB.out)) hg : w.heap.size ≤ gb118)); replace HB := aM (below_step (bX HB.out) hb); clear hb hbox hg; have hcz14_0 : w13.cell? ⟨gb118, 0, none⟩ = some (.int .i64 0) := (blk_cell BK118.out 0).trans rfl; have hcz14_1 : w13.cell? ⟨gb118, 1, none⟩ = some (.int .i64 0) := (blk_cell BK118.out 1).trans rfl; have hfz14_0 := blk_frozen BK118.out 0; have hfz14_1 := blk_frozen BK118.out 1))
 go_roundg k1
 case measure => have := HK1.out; omega
 case rel => exact ⟨(wrap64 (x11_1 + 1)), vX, H', ⟨by have := HK1.out; omega⟩, ⟨bX1 HB.out GE118.out⟩⟩
 }
 }
 {
 rw [if_neg c6] at H
 exact absurd H (by simp)
 }
 }
 {
 rw [if_neg c5] at H
 exact absurd H (by simp)
 }
 }
 {
 rw [if_neg c4] at H
 have c4b0 : decide (x11_1 < (l0.length : Int)) = false := decide_eq_false c4
 clear c4
 obtain rfl := Option.some.inj H
 go_wp2
 go_ret
 exact ⟨eX, bX HB.out⟩
 }

/-! ### s_l15Insert: function 27 -/
def s_l15Insert.l0 : Nat → List (S41) → Int → Int → Int → Option ((List (S41)))
 | 0, _, _, _, _ => none
 | k + 1, x5, x6, x120000, x120001 => if x6 > 0 then (if 0 ≤ (wrap64 (x6 - 1)) then (if (wrap64 (x6 - 1)) < (x5.length : Int) then (if ((rd_T41 x5 (wrap64 (x6 - 1))).f1) > x120001 then (if 0 ≤ x6 then (if x6 < (x5.length : Int) then (s_l15Insert.l0 k ((x5.set (x6 : Int).toNat (⟨(rd_T41 x5 (wrap64 (x6 - 1))).f0, (rd_T41 x5 (wrap64 (x6 - 1))).f1⟩ : S41)).set ((wrap64 (x6 - 1)) : Int).toNat (⟨x120000, x120001⟩ : S41)) (wrap64 (x6 - 1)) x120000 x120001) else (none)) else (none)) else (if ((rd_T41 x5 (wrap64 (x6 - 1))).f1) = x120001 then (if ((rd_T41 x5 (wrap64 (x6 - 1))).f0) > x120000 then (if 0 ≤ x6 then (if x6 < (x5.length : Int) then (s_l15Insert.l0 k ((x5.set (x6 : Int).toNat (⟨(rd_T41 x5 (wrap64 (x6 - 1))).f0, (rd_T41 x5 (wrap64 (x6 - 1))).f1⟩ : S41)).set ((wrap64 (x6 - 1)) : Int).toNat (⟨x120000, x120001⟩ : S41)) (wrap64 (x6 - 1)) x120000 x120001) else (none)) else (none)) else (some x5)) else (some x5))) else (none)) else (none)) else (some x5)
def s_l15Insert.f (k : Nat) (l0 : List (S41)) (a1_0 : Int) (a1_1 : Int) : Option ((List (S41))) := (some (([] : List (S41)) : List (S41))).bind fun y120 => (if y120.length + l0.length < 8796093022208 then ((some (y120 ++ l0 : List (S41))).bind fun y123 => ((some (([(⟨a1_0, a1_1⟩ : S41)] : List (S41)) : List (S41))).bind fun y126 => (if y123.length + y126.length < 8796093022208 then ((some (y123 ++ y126 : List (S41))).bind fun y129 => (s_l15Insert.l0 k y129 (wrap64 ((y129.length : Int) - 1)) a1_0 a1_1)) else (none)))) else (none))
def s_l15Insert.T3 : Bool × List (List Nat × List Nat) := (true, [([], []), ([0], [0]), ([1], [1]), ([2], [2]), ([2], [2]), ([4, 2], [2, 4]), ([3, 5, 2], [2, 3, 5]), ([6, 2], [2, 6]), ([7, 2], [2, 7]), ([2], [2]), ([9, 2], [2, 9]), ([8, 10, 2], [2, 8, 10]), ([11, 2, 2], [2, 11]), ([12], [12]), ([12], [12]), ([14, 12], [12, 14]), ([13, 15, 12], [12, 13, 15]), ([16, 12], [12, 16]), ([17, 12], [12, 17]), ([12], [12]), ([19, 12], [12, 19]), ([18, 20, 12], [12, 18, 20]), ([21, 12, 12], [12, 21]), ([22], [22]), ([22], [22]), ([24, 22], [22, 24]), ([23, 25, 22], [22, 23, 25]), ([26, 22], [22, 26]), ([27, 22], [22, 27]), ([22], [22]), ([29, 22], [22, 29]), ([28, 30, 22], [22, 28, 30]), ([22, 31, 12], [12, 22, 31]), ([12, 32, 2], [2, 12, 32]), ([2, 33], [2, 33])])
def s_l15Insert.B3 : List Nat := [0, 1, 3, 7, 7, 23, 63, 127, 255, 7, 519, 2047, 4095, 8191, 8191, 24575, 65535, 131071, 262143, 8191, 532479, 2097151, 4194303, 8388607, 8388607, 25165823, 67108863, 134217727, 268435455, 8388607, 545259519, 2147483647, 4294967295, 8589934591, 17179869183]
theorem s_l15Insert.tab3 : rtab .any (opsOf Try.f27 3) = s_l15Insert.T3 := by kernel_rfl
theorem s_l15Insert.bits3 : waitsOk s_l15Insert.T3.2 s_l15Insert.B3 = true := by kernel_rfl
theorem s_l15Insert.calls (k : Nat) (A0 : Option Addr) (c0 : Nat) (l0 : List (S41)) (a1_0 : Int) (a1_1 : Int) (r : List (S41)) (w : World) (hr0 : Kd.C k41 w A0 l0.length l0) (hc0 : l0.length ≤ c0) (h : s_l15Insert.f k l0 a1_0 a1_1 = some r) :
  Calls Try.prog 27 #[.slice A0 l0.length c0, .agg #[.int .i64 a1_0, .int .i64 a1_1]] w fun e w' => ∃ v0_ : Value, e = .returned (v0_) ∧ Kd.R k41 41 w' w.heap.size (fun _ => True) v0_ r ∧ Below w.heap.size w w' := by
 have hu41 := Try.underlying41
 have HR0 := aM hr0
 have HC0 := aM hc0
 clear hr0 hc0
 have HB := aM (Below.refl w.heap.size w)
 have H : ((some (([] : List (S41)) : List (S41))).bind fun y120 => (if y120.length + l0.length < 8796093022208 then ((some (y120 ++ l0 : List (S41))).bind fun y123 => ((some (([(⟨a1_0, a1_1⟩ : S41)] : List (S41)) : List (S41))).bind fun y126 => (if y123.length + y126.length < 8796093022208 then ((some (y123 ++ y126 : List (S41))).bind fun y129 => (s_l15Insert.l0 k y129 (wrap64 ((y129.length : Int) - 1)) a1_0 a1_1)) else (none)))) else (none))) = some r := h
 clear h
 obtain ⟨y120, hy120⟩ : ∃ y_ : List (S41), y_ = (([] : List (S41))) := ⟨_, rfl⟩
 replace H : (if y120.length + l0.length < 8796093022208 then ((some (y120 ++ l0 : List (S41))).bind fun y123 => ((some (([(⟨a1_0, a1_1⟩ : S41)] : List (S41)) : List (S41))).bind fun y126 => (if y123.length + y126.length < 8796093022208 then ((some (y123 ++ y126 : List (S41))).bind fun y129 => (s_l15Insert.l0 k y129 (wrap64 ((y129.length : Int) - 1)) a1_0 a1_1)) else (none)))) else (none)) = some r := by first | (rw [hy120]; with_reducible exact H) | (have H2_ := (Option.bind_some _ _).symm.trans H; rw [hy120]; with_reducible exact H2_) | (have H2_ := (Option.bind_some _ _).symm.trans H; with_reducible exact H2_) | with_reducible exact H | (rw [hy120]; exact H) | exact H
 have Ny120 := aM hy120
 clear hy120
 by_cases c3 : y120.length + l0.length < 8796093022208
 {
 rw [if_pos c3] at H
 have LMc3 := aM c3
 clear c3
 obtain ⟨y123, hy123⟩ : ∃ y_ : List (S41), y_ = (y120 ++ l0) := ⟨_, rfl⟩
 replace H : ((some (([(⟨a1_0, a1_1⟩ : S41)] : List (S41)) : List (S41))).bind fun y126 => (if y123.length + y126.length < 8796093022208 then ((some (y123 ++ y126 : List (S41))).bind fun y129 => (s_l15Insert.l0 k y129 (wrap64 ((y129.length : Int) - 1)) a1_0 a1_1)) else (none))) = some r := by first | (rw [hy123]; with_reducible exact H) | (have H2_ := (Option.bind_some _ _).symm.trans H; rw [hy123]; with_reducible exact H2_) | (have H2_ := (Option.bind_some _ _).symm.trans H; with_reducible exact H2_) | with_reducible exact H | (rw [hy123]; exact H) | exact H
 have Ny123 := aM hy123
 clear hy123
 obtain ⟨y126, hy126⟩ : ∃ y_ : List (S41), y_ = (([(⟨a1_0, a1_1⟩ : S41)] : List (S41))) := ⟨_, rfl⟩
 replace H : (if y123.length + y126.length < 8796093022208 then ((some (y123 ++ y126 : List (S41))).bind fun y129 => (s_l15Insert.l0 k y129 (wrap64 ((y129.length : Int) - 1)) a1_0 a1_1)) else (none)) = some r := by first | (rw [hy126]; with_reducible exact H) | (have H2_ := (Option.bind_some _ _).symm.trans H; rw [hy126]; with_reducible exact H2_) | (have H2_ := (Option.bind_some _ _).symm.trans H; with_reducible exact H2_) | with_reducible exact H | (rw [hy126]; exact H) | exact H
 have Ny126 := aM hy126
 clear hy126
 by_cases c4 : y123.length + y126.length < 8796093022208
 {
 rw [if_pos c4] at H
 have LMc4 := aM c4
 clear c4
 obtain ⟨y129, hy129⟩ : ∃ y_ : List (S41), y_ = (y123 ++ y126) := ⟨_, rfl⟩
 replace H : (s_l15Insert.l0 k y129 (wrap64 ((y129.length : Int) - 1)) a1_0 a1_1) = some r := by first | (rw [hy129]; with_reducible exact H) | (have H2_ := (Option.bind_some _ _).symm.trans H; rw [hy129]; with_reducible exact H2_) | (have H2_ := (Option.bind_some _ _).symm.trans H; with_reducible exact H2_) | with_reducible exact H | (rw [hy129]; exact H) | exact H
 have Ny129 := aM hy129
 clear hy129
 have H' := aM H
 clear H
 go_enter Try.func27, Try.ntmps27
 try go_wp2_with (first | ((with_reducible refine gate_dst (N := 3) rfl ?_); refine bEv (cs := #[.int .i64 a1_0, .int .i64 a1_1]) (t := 41) ?_; intro gb119 hg w5 hbox hb; have BK119 := aM (hbox); have GW119 := aM ((szX (below_size (bX HB.out)) hg : w.heap.size ≤ gb119)); have GE119 := aM ((szX (below_size (bX HB.out)) hg : w.heap.size ≤ gb119)); replace HB := aM (below_step (bX HB.out) hb); clear hb hbox hg))
 replace BK119 := aM (blk_drew BK119.out)
 replace HB := aM (below_drew1 HB.out)
 refine start_ (n := 7) (S := fun w' => w'.cell? ⟨gb119, 0, none⟩ = some (.int .i64 a1_0) ∧ w'.cell? ⟨gb119, 1, none⟩ = some (.int .i64 a1_1)) (ds := []) #[false, false, false, false, false, false, false] (by kernel_rfl) rfl rfl ⟨cz20 BK119.out, cz21 BK119.out⟩ (fun hHeld => ?_)
 generalize w5.drew = w6 at BK119 HB hHeld ⊢
 refine pure_ (i := 1) (N := some 8) (v := ?_) (a' := ?_) #[false, true, false, false, false, false, false] rfl rfl (by kernel_rfl) (fun _ _ _ h => h) (Or.inl ⟨by rfl, ?_⟩) ?_ ?_
 rotate_left
 {
 intro w'
 go_simp
 with_reducible rfl
 }
 rotate_left
 {
 simp only [Act.put, zA, zB, zC, i64_w, i32_w]
 rfl
 }
 refine take_ (i := 3) (N := some 10) (v := ?_) (a' := ?_) #[false, true, false, true, false, false, false] rfl rfl (by kernel_rfl) (fun _ _ _ h => h) (Or.inl ⟨by rfl, ?_⟩) hHeld ?_ ?_
 rotate_left
 {
 rintro w' ⟨s0, s1⟩
 go_simp
 with_reducible rfl
 }
 rotate_left
 {
 simp only [Act.put, zA, zB, zC, i64_w, i32_w]
 rfl
 }
 refine join_ (σ := Value × Value × Value) 2 #[true, true, true, true, true, false, false] (fun s_ => [(7, s_.1), (9, s_.2.1), (11, s_.2.2)]) (fun s_ w' => (w'.cell? ⟨gb119, 0, none⟩ = some (.int .i64 a1_0) ∧ w'.cell? ⟨gb119, 1, none⟩ = some (.int .i64 a1_1)) ∧ (Kd.R k41 41 w' w.heap.size (fun k_ => some k_ ≠ (s_.2.2 : Value).ownBlock ∧ k_ ≠ gb119) s_.2.1 y123) ∧ (Kd.R k41 41 w' w.heap.size (fun k_ => some k_ ≠ (s_.2.1 : Value).ownBlock ∧ k_ ≠ gb119) s_.2.2 y126) ∧ (w'.heap[gb119]? = some (.cells #[.int .i64 a1_0, .int .i64 a1_1] 41 (0, 0))) ∧ (Below w.heap.size w w')) ?_ ?_
 rotate_left
 {
 intro hCont
 refine two_ (i := 0) (j := 4) (Ni := some 7) (Nj := some 11) #[true, true, false, true, false, false, false] #[false, true, false, true, true, false, false] rfl rfl rfl rfl (by kernel_rfl) (by decide) (by decide) (fun K hK => ?_) (fun K hK => ?_)
 {
 skip
 refine Kd.R_lit_step k41 _ 41 ?hg (N := 7) ?hd (xs := ([] : List (S41))) (inner := []) (ok := fun _ => True) (okp := fun _ => True) ?hr ?hp (fun _ hk => hk) trivial (Below.refl _ _) (Nat.le_refl _) (by simp) ?_; (case hd => rfl); (case hg => rfl); (case hr => first | (go_simp; done) | (go_simp; rfl)); (case hp => exact (Reps.none _ _))
 intro v121 w7 ho8 hb hg_ hnew_
 clear hg_ hnew_
 (first | rw [← Ny120.out] at ho8 | (simp only [Int.reduceToNat] at ho8; rw [← Ny120.out] at ho8))
 have HO122 := aM (Kd.R_lower (Kd.R_newB ho8 (g := gb119) (o := .cells #[.int .i64 a1_0, .int .i64 a1_1] 41 (0, 0)) (kX BK119.out)) (below_size (bX1 HB.out GE119.out)))
 replace BK119 := aM (bbX BK119.out hb)
 replace HB := aM (below_step (bX1 HB.out GE119.out) hb)
 clear hb ho8
 refine hK.out _ _ ⟨cz20 BK119.out, cz21 BK119.out⟩ (fun hHeld => ?_)
 clear hK K
 refine norm_ (a' := ?_) ?_ ?_
 rotate_left
 {
 show Act.put _ (some 7) _ = _
 simp only [Act.put, zA, zB, zC, i64_w, i32_w]
 rfl
 }
 refine two_ (i := 2) (j := 4) (Ni := some 9) (Nj := some 11) #[true, true, true, true, false, false, false] #[true, true, false, true, true, false, false] rfl rfl rfl rfl (by kernel_rfl) (by decide) (by decide) (fun K hK => ?_) (fun K hK => ?_)
 {
 skip
 refine Kd.R_append_rows_step k41 (w0 := w) w.heap.size (by rfl) (.tmp 7) (.tmp 8) 23 41 (.agg #[(.int .i64 0), (.int .i64 0)]) 16 rfl Try.underlying23 info41 rfl (by decide) (by omega) v121 y120 l0 _ _ _ (fun k_ => k_ ≠ gb119) (fun _ => False) rfl rfl ?aO ?aR (fun _ _ h => h) (fun _ h => h.elim) ?aF ?aB ?aS ?aL ?_
 (case aR => exact cX (Kd.C_below HR0.out HB.out))
 (case aB => exact (bX1 HB.out GE119.out))
 (case aF => exact (fun k_ hk => Kd.freshB (g := gb119) (o := .cells #[.int .i64 a1_0, .int .i64 a1_1] 41 (0, 0)) (kX BK119.out) k_ hk))
 (case aO => exact (rM HO122.out (fun _ hk => hk.2)))
 (case aS => exact (below_size (bX1 HB.out GE119.out)))
 (case aL => have := LMc3.out; omega)
 intro v124 w9 ho hb hg hat
 rw [← Ny123.out] at ho
 replace BK119 := aM (bgX BK119.out hg (Kd.R_away HO122.out (fun _ hk => hk.2)))
 replace HB := aM (hb)
 have HO125 := aM (ho)
 clear HO122 ho hb hg hat
 refine hK.out _ _ ⟨cz20 BK119.out, cz21 BK119.out⟩ (fun hHeld => ?_)
 clear hK K
 refine norm_ (a' := ?_) ?_ ?_
 rotate_left
 {
 show Act.put _ (some 9) _ = _
 simp only [Act.put, zA, zB, zC, i64_w, i32_w]
 rfl
 }
 refine one_ (i := 4) (N := some 11) #[true, true, true, true, true, false, false] rfl rfl (by kernel_rfl) (by decide) (fun K hK => ?_)
 refine Kd.R_lit_step k41 _ 41 ?hg (N := 11) ?hd (xs := ([(⟨a1_0, a1_1⟩ : S41)] : List (S41))) (inner := [.int .i64 a1_0, .int .i64 a1_1]) (ok := fun _ => True) (okp := fun _ => True) ?hr ?hp (fun _ hk => hk) trivial (Below.refl _ _) (Nat.le_refl _) (by simp) ?_; (case hd => rfl); (case hg => rfl); (case hr => first | (go_simp; done) | (go_simp; rfl)); (case hp => exact (Reps.c2 (show Kd.M k41 _ _ _ (⟨a1_0, a1_1⟩ : S41) [.int .i64 a1_0, .int .i64 a1_1] from (k41_mkM _ _ _ (⟨a1_0, a1_1⟩ : S41) )) (Reps.none _ _)))
 intro v127 w10 ho11 hb hg_ hnew_
 clear hg_ hnew_
 (first | rw [← Ny126.out] at ho11 | (simp only [Int.reduceToNat] at ho11; rw [← Ny126.out] at ho11))
 have HO128 := aM (Kd.R_lower (Kd.R_newB (Kd.R_new' ho11 (Kd.R_lt (rX HO125.out))) (g := gb119) (o := .cells #[.int .i64 a1_0, .int .i64 a1_1] 41 (0, 0)) (kX BK119.out)) (below_size (bX1 HB.out GE119.out)))
 replace HO125 := aM (Kd.R_elder' (rX HO125.out) (Kd.R_base ho11) hb)
 replace BK119 := aM (bbX BK119.out hb)
 replace HB := aM (below_step (bX1 HB.out GE119.out) hb)
 clear hb ho11
 refine hK.out _ _ ⟨cz20 BK119.out, cz21 BK119.out⟩ (fun hHeld => ?_)
 clear hK K
 refine norm_ (a' := ?_) ?_ ?_
 rotate_left
 {
 show Act.put _ (some 11) _ = _
 simp only [Act.put, zA, zB, zC, i64_w, i32_w]
 rfl
 }
 exact norm_ (by simp only [putAll, Act.put, List.setIfInBounds_toArray, List.set_cons_zero, List.set_cons_succ]) (hCont (v121, v124, v127) _ ⟨hHeld, (rM HO125.out (fun _ hk => ⟨hk.2, hk.1⟩)), (rM HO128.out (fun _ hk => ⟨hk.1.2, hk.2⟩)), (kX BK119.out), (bX1 HB.out GE119.out)⟩)
 }
 {
 skip
 refine Kd.R_lit_step k41 _ 41 ?hg (N := 11) ?hd (xs := ([(⟨a1_0, a1_1⟩ : S41)] : List (S41))) (inner := [.int .i64 a1_0, .int .i64 a1_1]) (ok := fun _ => True) (okp := fun _ => True) ?hr ?hp (fun _ hk => hk) trivial (Below.refl _ _) (Nat.le_refl _) (by simp) ?_; (case hd => rfl); (case hg => rfl); (case hr => first | (go_simp; done) | (go_simp; rfl)); (case hp => exact (Reps.c2 (show Kd.M k41 _ _ _ (⟨a1_0, a1_1⟩ : S41) [.int .i64 a1_0, .int .i64 a1_1] from (k41_mkM _ _ _ (⟨a1_0, a1_1⟩ : S41) )) (Reps.none _ _)))
 intro v127 w9 ho10 hb hg_ hnew_
 clear hg_ hnew_
 (first | rw [← Ny126.out] at ho10 | (simp only [Int.reduceToNat] at ho10; rw [← Ny126.out] at ho10))
 have HO128 := aM (Kd.R_lower (Kd.R_newB (Kd.R_new' ho10 (Kd.R_lt (rX HO122.out))) (g := gb119) (o := .cells #[.int .i64 a1_0, .int .i64 a1_1] 41 (0, 0)) (kX BK119.out)) (below_size (bX1 HB.out GE119.out)))
 replace HO122 := aM (Kd.R_elder' (rX HO122.out) (Kd.R_base ho10) hb)
 replace BK119 := aM (bbX BK119.out hb)
 replace HB := aM (below_step (bX1 HB.out GE119.out) hb)
 clear hb ho10
 refine hK.out _ _ ⟨cz20 BK119.out, cz21 BK119.out⟩ (fun hHeld => ?_)
 clear hK K
 refine norm_ (a' := ?_) ?_ ?_
 rotate_left
 {
 show Act.put _ (some 11) _ = _
 simp only [Act.put, zA, zB, zC, i64_w, i32_w]
 rfl
 }
 refine one_ (i := 2) (N := some 9) #[true, true, true, true, true, false, false] rfl rfl (by kernel_rfl) (by decide) (fun K hK => ?_)
 refine Kd.R_append_rows_step k41 (w0 := w) w.heap.size (by rfl) (.tmp 7) (.tmp 8) 23 41 (.agg #[(.int .i64 0), (.int .i64 0)]) 16 rfl Try.underlying23 info41 rfl (by decide) (by omega) v121 y120 l0 _ _ _ (fun k_ => some k_ ≠ (v127 : Value).ownBlock ∧ k_ ≠ gb119) (fun _ => False) rfl rfl ?aO ?aR (fun _ _ h => h) (fun _ h => h.elim) ?aF ?aB ?aS ?aL ?_
 (case aR => exact cX (Kd.C_below HR0.out HB.out))
 (case aB => exact (bX1 HB.out GE119.out))
 (case aF => exact (fun k_ hk => ⟨Kd.fresh' (Kd.R_lt (rX HO128.out)) k_ hk, Kd.freshB (g := gb119) (o := .cells #[.int .i64 a1_0, .int .i64 a1_1] 41 (0, 0)) (kX BK119.out) k_ hk⟩))
 (case aO => exact (rM HO122.out (fun _ hk => ⟨hk.2, hk.1.2⟩)))
 (case aS => exact (below_size (bX1 HB.out GE119.out)))
 (case aL => have := LMc3.out; omega)
 intro v124 w11 ho hb hg hat
 rw [← Ny123.out] at ho
 replace BK119 := aM (bgX BK119.out hg (Kd.R_away HO122.out (fun _ hk => hk.1.2)))
 replace HO128 := aM (Kd.R_after (ok := (fun k_ => k_ ≠ gb119)) (rM HO128.out (fun _ hk => ⟨hk.2, hk.1.2⟩)) hg hat)
 replace HB := aM (hb)
 have HO125 := aM (ho)
 clear HO122 ho hb hg hat
 refine hK.out _ _ ⟨cz20 BK119.out, cz21 BK119.out⟩ (fun hHeld => ?_)
 clear hK K
 refine norm_ (a' := ?_) ?_ ?_
 rotate_left
 {
 show Act.put _ (some 9) _ = _
 simp only [Act.put, zA, zB, zC, i64_w, i32_w]
 rfl
 }
 exact norm_ (by simp only [putAll, Act.put, List.setIfInBounds_toArray, List.set_cons_zero, List.set_cons_succ]) (hCont (v121, v124, v127) _ ⟨hHeld, (rX HO125.out), (rM HO128.out (fun _ hk => ⟨hk.2, hk.1⟩)), (kX BK119.out), (bX1 HB.out GE119.out)⟩)
 }
 }
 {
 skip
 refine Kd.R_lit_step k41 _ 41 ?hg (N := 11) ?hd (xs := ([(⟨a1_0, a1_1⟩ : S41)] : List (S41))) (inner := [.int .i64 a1_0, .int .i64 a1_1]) (ok := fun _ => True) (okp := fun _ => True) ?hr ?hp (fun _ hk => hk) trivial (Below.refl _ _) (Nat.le_refl _) (by simp) ?_; (case hd => rfl); (case hg => rfl); (case hr => first | (go_simp; done) | (go_simp; rfl)); (case hp => exact (Reps.c2 (show Kd.M k41 _ _ _ (⟨a1_0, a1_1⟩ : S41) [.int .i64 a1_0, .int .i64 a1_1] from (k41_mkM _ _ _ (⟨a1_0, a1_1⟩ : S41) )) (Reps.none _ _)))
 intro v127 w7 ho8 hb hg_ hnew_
 clear hg_ hnew_
 (first | rw [← Ny126.out] at ho8 | (simp only [Int.reduceToNat] at ho8; rw [← Ny126.out] at ho8))
 have HO128 := aM (Kd.R_lower (Kd.R_newB ho8 (g := gb119) (o := .cells #[.int .i64 a1_0, .int .i64 a1_1] 41 (0, 0)) (kX BK119.out)) (below_size (bX1 HB.out GE119.out)))
 replace BK119 := aM (bbX BK119.out hb)
 replace HB := aM (below_step (bX1 HB.out GE119.out) hb)
 clear hb ho8
 refine hK.out _ _ ⟨cz20 BK119.out, cz21 BK119.out⟩ (fun hHeld => ?_)
 clear hK K
 refine norm_ (a' := ?_) ?_ ?_
 rotate_left
 {
 show Act.put _ (some 11) _ = _
 simp only [Act.put, zA, zB, zC, i64_w, i32_w]
 rfl
 }
 refine one_ (i := 0) (N := some 7) #[true, true, false, true, true, false, false] rfl rfl (by kernel_rfl) (by decide) (fun K hK => ?_)
 refine Kd.R_lit_step k41 _ 41 ?hg (N := 7) ?hd (xs := ([] : List (S41))) (inner := []) (ok := fun _ => True) (okp := fun _ => True) ?hr ?hp (fun _ hk => hk) trivial (Below.refl _ _) (Nat.le_refl _) (by simp) ?_; (case hd => rfl); (case hg => rfl); (case hr => first | (go_simp; done) | (go_simp; rfl)); (case hp => exact (Reps.none _ _))
 intro v121 w9 ho10 hb hg_ hnew_
 clear hg_ hnew_
 (first | rw [← Ny120.out] at ho10 | (simp only [Int.reduceToNat] at ho10; rw [← Ny120.out] at ho10))
 have HO122 := aM (Kd.R_lower (Kd.R_newB (Kd.R_new' ho10 (Kd.R_lt (rX HO128.out))) (g := gb119) (o := .cells #[.int .i64 a1_0, .int .i64 a1_1] 41 (0, 0)) (kX BK119.out)) (below_size (bX1 HB.out GE119.out)))
 replace HO128 := aM (Kd.R_elder' (rX HO128.out) (Kd.R_base ho10) hb)
 replace BK119 := aM (bbX BK119.out hb)
 replace HB := aM (below_step (bX1 HB.out GE119.out) hb)
 clear hb ho10
 refine hK.out _ _ ⟨cz20 BK119.out, cz21 BK119.out⟩ (fun hHeld => ?_)
 clear hK K
 refine norm_ (a' := ?_) ?_ ?_
 rotate_left
 {
 show Act.put _ (some 7) _ = _
 simp only [Act.put, zA, zB, zC, i64_w, i32_w]
 rfl
 }
 refine one_ (i := 2) (N := some 9) #[true, true, true, true, true, false, false] rfl rfl (by kernel_rfl) (by decide) (fun K hK => ?_)
 refine Kd.R_append_rows_step k41 (w0 := w) w.heap.size (by rfl) (.tmp 7) (.tmp 8) 23 41 (.agg #[(.int .i64 0), (.int .i64 0)]) 16 rfl Try.underlying23 info41 rfl (by decide) (by omega) v121 y120 l0 _ _ _ (fun k_ => some k_ ≠ (v127 : Value).ownBlock ∧ k_ ≠ gb119) (fun _ => False) rfl rfl ?aO ?aR (fun _ _ h => h) (fun _ h => h.elim) ?aF ?aB ?aS ?aL ?_
 (case aR => exact cX (Kd.C_below HR0.out HB.out))
 (case aB => exact (bX1 HB.out GE119.out))
 (case aF => exact (fun k_ hk => ⟨Kd.fresh' (Kd.R_lt (rX HO128.out)) k_ hk, Kd.freshB (g := gb119) (o := .cells #[.int .i64 a1_0, .int .i64 a1_1] 41 (0, 0)) (kX BK119.out) k_ hk⟩))
 (case aO => exact (rM HO122.out (fun _ hk => ⟨hk.1.2, hk.2⟩)))
 (case aS => exact (below_size (bX1 HB.out GE119.out)))
 (case aL => have := LMc3.out; omega)
 intro v124 w11 ho hb hg hat
 rw [← Ny123.out] at ho
 replace BK119 := aM (bgX BK119.out hg (Kd.R_away HO122.out (fun _ hk => hk.2)))
 replace HO128 := aM (Kd.R_after (ok := (fun k_ => k_ ≠ gb119)) (rM HO128.out (fun _ hk => ⟨hk.1.2, hk.2⟩)) hg hat)
 replace HB := aM (hb)
 have HO125 := aM (ho)
 clear HO122 ho hb hg hat
 refine hK.out _ _ ⟨cz20 BK119.out, cz21 BK119.out⟩ (fun hHeld => ?_)
 clear hK K
 refine norm_ (a' := ?_) ?_ ?_
 rotate_left
 {
 show Act.put _ (some 9) _ = _
 simp only [Act.put, zA, zB, zC, i64_w, i32_w]
 rfl
 }
 exact norm_ (by simp only [putAll, Act.put, List.setIfInBounds_toArray, List.set_cons_zero, List.set_cons_succ]) (hCont (v121, v124, v127) _ ⟨hHeld, (rX HO125.out), (rM HO128.out (fun _ hk => ⟨hk.2, hk.1⟩)), (kX BK119.out), (bX1 HB.out GE119.out)⟩)
 }
 }
 rintro ⟨v121, v124, v127⟩ w12 ⟨hS_, h0_, h1_, h2_, h3_⟩
 have n0_ : Aside0 (Kd.R k41 41 w12 w.heap.size (fun k_ => some k_ ≠ (v127 : Value).ownBlock ∧ k_ ≠ gb119) v124 y123) := ⟨h0_⟩
 have n1_ : Aside0 (Kd.R k41 41 w12 w.heap.size (fun k_ => some k_ ≠ (v124 : Value).ownBlock ∧ k_ ≠ gb119) v127 y126) := ⟨h1_⟩
 have n2_ : Aside0 (w12.heap[gb119]? = some (.cells #[.int .i64 a1_0, .int .i64 a1_1] 41 (0, 0))) := ⟨h2_⟩
 have n3_ : Aside0 (Below w.heap.size w w12) := ⟨h3_⟩
 clear BK119 HB h0_ h1_ h2_ h3_
 have HO125 := n0_
 have HO128 := n1_
 have BK119 := n2_
 have HB := n3_
 clear n0_ n1_ n2_ n3_
 have hHeld : w12.cell? ⟨gb119, 0, none⟩ = some (.int .i64 a1_0) ∧ w12.cell? ⟨gb119, 1, none⟩ = some (.int .i64 a1_1) := hS_
 obtain ⟨Ao14, co14, eo14⟩ := Kd.R_slice HO128.out
 (first | subst eo14 | (injection eo14 with f1_ f2_ f3_; have f4_ := f1_.symm; have f5_ := f3_.symm; clear f1_ f2_ f3_; subst f4_; subst f5_))
 refine norm_ (a' := ?_) ?_ ?_
 rotate_left
 {
 simp only [putAll, Act.put, List.setIfInBounds_toArray, List.set_cons_zero, List.set_cons_succ]
 rfl
 }
 refine one_ (i := 5) (N := some 12) #[true, true, true, true, true, true, false] rfl rfl (by kernel_rfl) (by decide) (fun K hK => ?_)
 refine Kd.R_append_rows_step k41 (w0 := w) w.heap.size (by rfl) (.tmp 9) (.tmp 11) 23 41 (.agg #[(.int .i64 0), (.int .i64 0)]) 16 rfl Try.underlying23 info41 rfl (by decide) (by omega) v124 y123 y126 _ _ _ (fun k_ => some k_ ≠ (.slice Ao14 y126.length co14 : Value).ownBlock ∧ k_ ≠ gb119) (fun _ => False) rfl rfl ?aO ?aR (fun _ _ h => h) (fun _ h => h.elim) ?aF ?aB ?aS ?aL ?_
 (case aR => exact cX (Kd.R_reads' HO128.out).2.2)
 (case aB => exact (bX1 HB.out GE119.out))
 (case aF => exact (fun k_ hk => ⟨Kd.fresh' (Kd.R_lt (rX HO128.out)) k_ hk, Kd.freshB (g := gb119) (o := .cells #[.int .i64 a1_0, .int .i64 a1_1] 41 (0, 0)) (kX BK119.out) k_ hk⟩))
 (case aO => exact (rX HO125.out))
 (case aS => exact (below_size (bX1 HB.out GE119.out)))
 (case aL => have := LMc4.out; omega)
 intro v130 w13 ho hb hg hat
 rw [← Ny129.out] at ho
 replace BK119 := aM (bgX BK119.out hg (Kd.R_away HO125.out (fun _ hk => hk.2)))
 replace HO128 := aM (Kd.R_after (ok := (fun k_ => k_ ≠ gb119)) (rM HO128.out (fun _ hk => ⟨hk.2, hk.1⟩)) hg hat)
 replace HB := aM (hb)
 have HO131 := aM (ho)
 clear HO125 ho hb hg hat
 refine hK.out _ _ ⟨cz20 BK119.out, cz21 BK119.out⟩ (fun hHeld => ?_)
 clear hK K
 refine norm_ (a' := ?_) ?_ ?_
 rotate_left
 {
 show Act.put _ (some 12) _ = _
 simp only [Act.put, zA, zB, zC, i64_w, i32_w]
 rfl
 }
 refine pure_ (i := 6) (N := some 5) (v := ?_) (a' := ?_) #[true, true, true, true, true, true, true] rfl rfl (by kernel_rfl) (fun _ _ _ h => h) (Or.inl ⟨by rfl, ?_⟩) ?_ ?_
 rotate_left
 {
 intro w'
 go_simp
 with_reducible rfl
 }
 rotate_left
 {
 simp only [Act.put, zA, zB, zC, i64_w, i32_w]
 rfl
 }
 refine done_ (by kernel_rfl) ?_
 obtain ⟨Ao15, co15, eo15⟩ := Kd.R_slice HO131.out
 subst eo15
 try go_wp2
 go_loopg [6] k (fun kq v6 w' => ∃ (x5_1 : List (S41)) (x6_1 : Int) (x120000_1 : Int) (x120001_1 : Int), v6 = .int .i64 x6_1 ∧ Aside0 (s_l15Insert.l0 kq x5_1 x6_1 x120000_1 x120001_1 = some r) ∧ Aside0 (kq ≤ k) ∧ Aside0 (Kd.R k41 41 w' w.heap.size (fun k_ => k_ ≠ gb119) (.slice Ao15 y129.length co15) x5_1) ∧ Aside0 (w'.heap[gb119]? = some (.cells #[.int .i64 x120000_1, .int .i64 x120001_1] 41 (0, 0))) ∧ Aside0 (Below w.heap.size w w'))
 case atStart => exact ⟨(y129), (wrap64 ((y129.length : Int) - 1)), (a1_0), (a1_1), vX, H', ⟨Nat.le_refl _⟩, ⟨rM HO131.out (fun _ hk => hk.2)⟩, ⟨kX BK119.out⟩, ⟨bX1 HB.out GE119.out⟩⟩
 case round =>
 clear H'
 try clear c2
 try clear c3
 try clear c4
 obtain ⟨x5_1, x6_1, x120000_1, x120001_1, rfl, HA, HK1, HO_5, BK119, HB⟩ := hrel
 have hl5_1 := (Kd.R_reads' HO_5.out).1
 rw [hl5_1] at HO_5
 (try simp only [hl5_1])
 (try simp only [hl5_1] at BK119)
 cases gk with
 | zero => exact absurd HA.out (by simp [s_l15Insert.l0])
 | succ k1 =>
 have H := HA.out
 clear HA
 simp only [s_l15Insert.l0] at H
 by_cases c16 : x6_1 > 0
 {
 rw [if_pos c16] at H
 have c16b0 : decide (0 < x6_1) = true := decide_eq_true c16
 clear c16
 obtain ⟨ji17, hji17⟩ : ∃ j_ : Int, (wrap64 (x6_1 - 1)) = j_ := ⟨_, rfl⟩
 replace H : (if 0 ≤ (ji17) then (if (ji17) < (x5_1.length : Int) then (if ((rd_T41 x5_1 (ji17)).f1) > x120001_1 then (if 0 ≤ x6_1 then (if x6_1 < (x5_1.length : Int) then (s_l15Insert.l0 k1 ((x5_1.set (x6_1 : Int).toNat (⟨(rd_T41 x5_1 (ji17)).f0, (rd_T41 x5_1 (ji17)).f1⟩ : S41)).set ((ji17) : Int).toNat (⟨x120000_1, x120001_1⟩ : S41)) ji17 x120000_1 x120001_1) else (none)) else (none)) else (if ((rd_T41 x5_1 (ji17)).f1) = x120001_1 then (if ((rd_T41 x5_1 (ji17)).f0) > x120000_1 then (if 0 ≤ x6_1 then (if x6_1 < (x5_1.length : Int) then (s_l15Insert.l0 k1 ((x5_1.set (x6_1 : Int).toNat (⟨(rd_T41 x5_1 (ji17)).f0, (rd_T41 x5_1 (ji17)).f1⟩ : S41)).set ((ji17) : Int).toNat (⟨x120000_1, x120001_1⟩ : S41)) ji17 x120000_1 x120001_1) else (none)) else (none)) else (some x5_1)) else (some x5_1))) else (none)) else (none)) = some r := by first | (rw [hji17] at H; exact H) | (simp only [hji17] at H ⊢; exact H)
 have hji17w : (IntKind.i64.wrap (x6_1 - 1)) = ji17 := (i64_w _).trans hji17
 by_cases c18 : 0 ≤ (ji17)
 {
 rw [if_pos c18] at H
 have c18b0 : decide (0 ≤ (ji17)) = true := decide_eq_true c18
 clear c18
 by_cases c19 : (ji17) < (x5_1.length : Int)
 {
 rw [if_pos c19] at H
 have c19b0 : decide ((ji17) < (x5_1.length : Int)) = true := decide_eq_true c19
 clear c19
 by_cases c20 : ((rd_T41 x5_1 (ji17)).f1) > x120001_1
 {
 rw [if_pos c20] at H
 have c20b0 : decide (x120001_1 < ((rd_T41 x5_1 (ji17)).f1)) = true := decide_eq_true c20
 clear c20
 by_cases c21 : 0 ≤ x6_1
 {
 rw [if_pos c21] at H
 have c21b0 : decide (0 ≤ x6_1) = true := decide_eq_true c21
 clear c21
 by_cases c22 : x6_1 < (x5_1.length : Int)
 {
 rw [if_pos c22] at H
 have c22b0 : decide (x6_1 < (x5_1.length : Int)) = true := decide_eq_true c22
 clear c22
 obtain ⟨y134, hy134⟩ : ∃ y_ : List (S41), y_ = (x5_1.set (x6_1 : Int).toNat (⟨(rd_T41 x5_1 (ji17)).f0, (rd_T41 x5_1 (ji17)).f1⟩ : S41)) := ⟨_, rfl⟩
 replace H : (s_l15Insert.l0 k1 (y134.set ((ji17) : Int).toNat (⟨x120000_1, x120001_1⟩ : S41)) ji17 x120000_1 x120001_1) = some r := by first | (rw [hy134]; with_reducible exact H) | (have H2_ := (Option.bind_some _ _).symm.trans H; rw [hy134]; with_reducible exact H2_) | (have H2_ := (Option.bind_some _ _).symm.trans H; with_reducible exact H2_) | with_reducible exact H | (rw [hy134]; exact H) | exact H
 have Ny134 := aM hy134
 clear hy134
 obtain ⟨y135, hy135⟩ : ∃ y_ : List (S41), y_ = (y134.set ((ji17) : Int).toNat (⟨x120000_1, x120001_1⟩ : S41)) := ⟨_, rfl⟩
 replace H : (s_l15Insert.l0 k1 y135 ji17 x120000_1 x120001_1) = some r := by first | (rw [hy135]; with_reducible exact H) | (have H2_ := (Option.bind_some _ _).symm.trans H; rw [hy135]; with_reducible exact H2_) | (have H2_ := (Option.bind_some _ _).symm.trans H; with_reducible exact H2_) | with_reducible exact H | (rw [hy135]; exact H) | exact H
 have Ny135 := aM hy135
 clear hy135
 have H' := aM H
 clear H
 try go_wp2
 replace HO_5 := aM (Kd.R_drew HO_5.out)
 replace BK119 := aM (blk_drew BK119.out)
 replace HB := aM (below_drew1 HB.out)
 have p132 : 0 ≤ ((ji17) : Int) := dX
 have q132 : (ji17) < (x5_1.length : Int) := dX
 obtain ⟨ad132, e132, hx132_0, hx132_1⟩ := at_T41 (Kd.R_reads' HO_5.out).2.2 (ji17) p132 q132
 cases e132
 replace p132 := eq_true p132
 replace q132 := eq_true q132
 refine start_ (n := 35) (S := fun w' => w'.cell? ⟨gb119, 0, none⟩ = some (.int .i64 x120000_1) ∧ w'.cell? ⟨gb119, 1, none⟩ = some (.int .i64 x120001_1) ∧ w'.cell? (ad132.add (((ji17)).toNat * 2)) = some (.int .i64 ((rd_T41 x5_1 (ji17)).f0)) ∧ w'.cell? ⟨(ad132.add (((ji17)).toNat * 2)).block, (ad132.add (((ji17)).toNat * 2)).off + 1, none⟩ = some (.int .i64 ((rd_T41 x5_1 (ji17)).f1))) (ds := []) #[ff,ff,ff,ff,ff,ff,ff,ff,ff,ff,ff,ff,ff,ff,ff,ff,ff,ff,ff,ff,ff,ff,ff,ff,ff,ff,ff,ff,ff,ff,ff,ff,ff,ff,ff] (by kernel_rfl) rfl rfl ⟨cz20 BK119.out, cz21 BK119.out, hx132_0, hx132_1⟩ (fun hHeld => ?_); refine with_tabW s_l15Insert.tab3 s_l15Insert.bits3 (fun HT_ HW_ => ?_)
 generalize wr.drew = w25 at HO_5 BK119 HB hx132_0 hx132_1 hHeld ⊢
 refine pX 0 16 (fl 35 1) rfl rfl HT_.out ?_
 refine pX 1 17 (fl 35 3) rfl rfl HT_.out ?_
 refine pX 2 18 (fl 35 7) rfl rfl HT_.out ?_
 refine pX 3 19 (fl 35 15) rfl rfl HT_.out ?_
 refine pX 4 20 (fl 35 31) rfl rfl HT_.out ?_
 refine pX 5 21 (fl 35 63) rfl rfl HT_.out ?_
 refine pX 6 22 (fl 35 127) rfl rfl HT_.out ?_
 refine pX 7 23 (fl 35 255) rfl rfl HT_.out ?_
 refine pX 9 25 (fl 35 767) rfl rfl HT_.out ?_
 refine tX4 8 24 (fl 35 1023) rfl rfl HT_.out HW_.out hHeld ?_
 refine tX4 10 26 (fl 35 2047) rfl rfl HT_.out HW_.out hHeld ?_
 refine pX 11 27 (fl 35 4095) rfl rfl HT_.out ?_
 refine pX 12 28 (fl 35 8191) rfl rfl HT_.out ?_
 refine uX 13 29 (fl 35 16383) rfl rfl HT_.out ?_
 refine uX 14 30 (fl 35 32767) rfl rfl HT_.out ?_
 refine uX 15 31 (fl 35 65535) rfl rfl HT_.out ?_
 refine uX 16 32 (fl 35 131071) rfl rfl HT_.out ?_
 refine uX 17 33 (fl 35 262143) rfl rfl HT_.out ?_
 refine uX 18 34 (fl 35 524287) rfl rfl HT_.out ?_
 refine uX 19 35 (fl 35 1048575) rfl rfl HT_.out ?_
 refine uX 20 36 (fl 35 2097151) rfl rfl HT_.out ?_
 refine uX 21 37 (fl 35 4194303) rfl rfl HT_.out ?_
 refine uX 22 38 (fl 35 8388607) rfl rfl HT_.out ?_
 refine uX 23 39 (fl 35 16777215) rfl rfl HT_.out ?_
 refine uX 24 40 (fl 35 33554431) rfl rfl HT_.out ?_
 refine uX 25 41 (fl 35 67108863) rfl rfl HT_.out ?_
 refine uX 26 42 (fl 35 134217727) rfl rfl HT_.out ?_
 refine uX 27 43 (fl 35 268435455) rfl rfl HT_.out ?_
 refine uX 28 44 (fl 35 536870911) rfl rfl HT_.out ?_
 refine uX 29 45 (fl 35 1073741823) rfl rfl HT_.out ?_
 refine uX 30 46 (fl 35 2147483647) rfl rfl HT_.out ?_
 refine uX 31 47 (fl 35 4294967295) rfl rfl HT_.out ?_
 refine uX 32 48 (fl 35 8589934591) rfl rfl HT_.out ?_
 refine pX 33 49 (fl 35 17179869183) rfl rfl HT_.out ?_
 refine pX 34 50 (fl 35 34359738367) rfl rfl HT_.out ?_
 refine done_ (done_of HT_.out (by kernel_rfl)) ?_
 have p133 : 0 ≤ ((ji17) : Int) := dX
 have q133 : (ji17) < (x5_1.length : Int) := dX
 obtain ⟨ad133, e133, hx133_0, hx133_1⟩ := at_T41 (Kd.R_reads' HO_5.out).2.2 (ji17) p133 q133
 obtain rfl : ad132 = ad133 := (by injection e133)
 replace p133 := eq_true p133
 replace q133 := eq_true q133
 have p23 : 0 ≤ (x6_1 : Int) := dX
 have q23 : (x6_1 : Int) < ((x5_1.length : Int) : Int) := dX
 obtain ⟨go23, co23, eo23, gb23, gl23, cl23, HG23⟩ := Kd.R_form HO_5.out (by omega)
 (first | cases eo23 | (injection eo23 with ea_ en_ ec_; (first | subst ea_ | (injection ea_ with ea_; subst ea_)); subst ec_; clear en_))
 have GB23 := aM gb23
 have GG23 := aM HG23
 clear gb23 gl23 HG23
 (first | simp only [add_plain] at hx132_0 | skip)
 (first | simp only [add_plain] at hx132_1 | skip)
 (first | simp only [add_plain] at hx133_0 | skip)
 (first | simp only [add_plain] at hx133_1 | skip)
 obtain ⟨ce23, hcl23, hM23, hcc23, hfr23⟩ := Kd.R_elem HO_5.out z41 (x6_1 : Int) p23 q23
 obtain rfl := k41_openM hM23
 have hx23_0 : w25.cell? ⟨go23, (x6_1 : Int).toNat * 2, none⟩ = some (.int .i64 ((rd_T41 x5_1 x6_1).f0)) := hcc23 0 _ rfl
 have hx23_1 : w25.cell? ⟨go23, (x6_1 : Int).toNat * 2 + 1, none⟩ = some (.int .i64 ((rd_T41 x5_1 x6_1).f1)) := hcc23 1 _ rfl
 have hf23_0 : w25.frozen? ⟨go23, (x6_1 : Int).toNat * 2, none⟩ = false := hfr23 0
 have hf23_1 : w25.frozen? ⟨go23, (x6_1 : Int).toNat * 2 + 1, none⟩ = false := hfr23 1
 clear hcl23 hcc23 hfr23 hM23
 replace p23 := eq_true p23
 replace q23 := eq_true q23
 have HX26 := aM (show Kd.R k41 41 w25 w.heap.size (fun k_ => k_ ≠ gb119) (.slice (some ⟨go23, 0, none⟩) x5_1.length co15) x5_1 from (rX HO_5.out))
 obtain ⟨ce26, hcl26, hM26, hcc26, hfr26⟩ := Kd.R_elem HX26.out z41 (x6_1 : Int) (dX) (by have h_ : (x6_1 : Int) < ((x5_1.length : Int) : Int) := dX; first | exact h_ | (have e_ := (Kd.R_reads' HO_5.out).1; omega) | simpa using h_)
 obtain rfl := k41_openM hM26
 have HP26 := Kd.R_seg HX26.out (x6_1 : Int) (dX) (by have h_ : (x6_1 : Int) < ((x5_1.length : Int) : Int) := dX; first | exact h_ | (have e_ := (Kd.R_reads' HO_5.out).1; omega) | simpa using h_) (seg := [.int .i64 ((rd_T41 x5_1 (ji17)).f0), .int .i64 ((rd_T41 x5_1 (ji17)).f1)]) (j := 0) hcl26 hcc26 (show 2 ≤ 2 from by decide) (x' := (⟨(rd_T41 x5_1 (ji17)).f0, (rd_T41 x5_1 (ji17)).f1⟩ : S41)) (k41_mkM _ _ _ (⟨(rd_T41 x5_1 (ji17)).f0, (rd_T41 x5_1 (ji17)).f1⟩ : S41) ) (fun _ hk => hk)
 have hx26_0 := hcc26 0 _ rfl
 (try simp only [show (k41).sz = 2 from rfl, Nat.mul_one, Nat.add_zero] at hx26_0)
 have hf26_0 := hfr26 0
 (try simp only [show (k41).sz = 2 from rfl, Nat.mul_one, Nat.add_zero] at hf26_0)
 have hx26_1 := hcc26 1 _ rfl
 (try simp only [show (k41).sz = 2 from rfl, Nat.mul_one, Nat.add_zero] at hx26_1)
 have hf26_1 := hfr26 1
 (try simp only [show (k41).sz = 2 from rfl, Nat.mul_one, Nat.add_zero] at hf26_1)
 clear hcl26 hcc26 hfr26 hM26
 try go_wp2_with (first | ((with_reducible refine gate_store (t := 41) (p := 60) rfl ?_); refine store_event (t := 41) (p := 60) (v := ?vo_w27) (w1 := ((w25.setCell ⟨go23, (x6_1 : Int).toNat * 2, none⟩ (.int .i64 ((rd_T41 x5_1 (ji17)).f0))).setCell ⟨go23, (x6_1 : Int).toNat * 2 + 1, none⟩ (.int .i64 ((rd_T41 x5_1 (ji17)).f1)))) ?hg ?ho ?hn ?hr ?_; (case ho => rfl); (case hg => rfl); (case hn => rfl); (case hr => first | (go_simp; done) | (go_simp; rfl)); intro w27 hw; have hg : w25.grownBy w27 (some go23) := (by rw [hw]; exact HP26.2); have hp_ : Kd.R k41 41 w27 w.heap.size (fun k_ => k_ ≠ gb119) (.slice (some ⟨go23, 0, none⟩) x5_1.length co15) y134 := (by rw [hw, Ny134.out]; exact HP26.1); clear HP26; replace BK119 := aM (bgX BK119.out hg (Kd.R_away HO_5.out (fun _ hk => hk))); replace HO_5 := aM (hp_); replace HB := aM ((by rw [hw]; exact below_set (below_set (HB.out) GB23.out) GB23.out : Below w.heap.size w w27)); clear hg hw hp_; have hcz28_0 := cz20 BK119.out; have hcz28_1 := cz21 BK119.out; have hfz28_0 := blk_frozen BK119.out 0; have hfz28_1 := blk_frozen BK119.out 1; have p24 : 0 ≤ ((ji17) : Int) := dX; have q24 : ((ji17) : Int) < ((x5_1.length : Int) : Int) := dX; obtain ⟨ce24, hcl24, hM24, hcc24, hfr24⟩ := Kd.R_elem HO_5.out z41 ((ji17) : Int) p24 q24; obtain rfl := k41_openM hM24; have hx24_0 : w27.cell? ⟨go23, ((ji17) : Int).toNat * 2, none⟩ = some (.int .i64 ((rd_T41 y134 (ji17)).f0)) := hcc24 0 _ rfl; have hx24_1 : w27.cell? ⟨go23, ((ji17) : Int).toNat * 2 + 1, none⟩ = some (.int .i64 ((rd_T41 y134 (ji17)).f1)) := hcc24 1 _ rfl; have hf24_0 : w27.frozen? ⟨go23, ((ji17) : Int).toNat * 2, none⟩ = false := hfr24 0; have hf24_1 : w27.frozen? ⟨go23, ((ji17) : Int).toNat * 2 + 1, none⟩ = false := hfr24 1; clear hcl24 hcc24 hfr24 hM24; replace p24 := eq_true p24; replace q24 := eq_true q24; have HX29 := aM (show Kd.R k41 41 w27 w.heap.size (fun k_ => k_ ≠ gb119) (.slice (some ⟨go23, 0, none⟩) x5_1.length co15) y134 from (rX HO_5.out)); obtain ⟨ce29, hcl29, hM29, hcc29, hfr29⟩ := Kd.R_elem HX29.out z41 ((ji17) : Int) (dX) (by have h_ : ((ji17) : Int) < ((x5_1.length : Int) : Int) := dX; first | exact h_ | (have e_ := (Kd.R_reads' HO_5.out).1; omega) | simpa using h_); obtain rfl := k41_openM hM29; have HP29 := Kd.R_seg HX29.out ((ji17) : Int) (dX) (by have h_ : ((ji17) : Int) < ((x5_1.length : Int) : Int) := dX; first | exact h_ | (have e_ := (Kd.R_reads' HO_5.out).1; omega) | simpa using h_) (seg := [.int .i64 x120000_1, .int .i64 x120001_1]) (j := 0) hcl29 hcc29 (show 2 ≤ 2 from by decide) (x' := (⟨x120000_1, x120001_1⟩ : S41)) (k41_mkM _ _ _ (⟨x120000_1, x120001_1⟩ : S41) ) (fun _ hk => hk); have hx29_0 := hcc29 0 _ rfl; (try simp only [show (k41).sz = 2 from rfl, Nat.mul_one, Nat.add_zero] at hx29_0); have hf29_0 := hfr29 0; (try simp only [show (k41).sz = 2 from rfl, Nat.mul_one, Nat.add_zero] at hf29_0); have hx29_1 := hcc29 1 _ rfl; (try simp only [show (k41).sz = 2 from rfl, Nat.mul_one, Nat.add_zero] at hx29_1); have hf29_1 := hfr29 1; (try simp only [show (k41).sz = 2 from rfl, Nat.mul_one, Nat.add_zero] at hf29_1); clear hcl29 hcc29 hfr29 hM29) | ((with_reducible refine gate_store (t := 41) (p := 65) rfl ?_); refine store_event (t := 41) (p := 65) (v := ?vo_w30) (w1 := ((w27.setCell ⟨go23, ((ji17) : Int).toNat * 2, none⟩ (.int .i64 x120000_1)).setCell ⟨go23, ((ji17) : Int).toNat * 2 + 1, none⟩ (.int .i64 x120001_1))) ?hg ?ho ?hn ?hr ?_; (case ho => rfl); (case hg => rfl); (case hn => rfl); (case hr => first | (go_simp; done) | (go_simp; rfl)); intro w30 hw; have hg : w27.grownBy w30 (some go23) := (by rw [hw]; exact HP29.2); have hp_ : Kd.R k41 41 w30 w.heap.size (fun k_ => k_ ≠ gb119) (.slice (some ⟨go23, 0, none⟩) x5_1.length co15) y135 := (by rw [hw, Ny135.out]; exact HP29.1); clear HP29; replace BK119 := aM (bgX BK119.out hg (Kd.R_away HO_5.out (fun _ hk => hk))); replace HO_5 := aM (hp_); replace HB := aM ((by rw [hw]; exact below_set (below_set (HB.out) GB23.out) GB23.out : Below w.heap.size w w30)); clear hg hw hp_))
 (try simp only [← hl5_1])
 go_roundg k1
 case measure => have := HK1.out; omega
 case rel => exact ⟨(y135), (ji17), (x120000_1), (x120001_1), (by first | rfl | (simp; done) | (simp only [← hji17] <;> (first | rfl | simp)) | (simp [*]; done)), H', ⟨by have := HK1.out; omega⟩, ⟨by (try simp only [hl5_1]); (with_reducible repeat (first|apply rA|apply rN|apply rD)); exact HO_5.out⟩, ⟨by (try simp only [hl5_1]); (with_reducible repeat (first|refine kN ?_ _|refine kD ?_|refine kA ?_ _)); exact BK119.out⟩, ⟨bX1 HB.out GE119.out⟩⟩
 }
 {
 rw [if_neg c22] at H
 exact absurd H (by simp)
 }
 }
 {
 rw [if_neg c21] at H
 exact absurd H (by simp)
 }
 }
 {
 rw [if_neg c20] at H
 have c20b0 : decide (x120001_1 < ((rd_T41 x5_1 (ji17)).f1)) = false := decide_eq_false c20
 clear c20
 by_cases c31 : ((rd_T41 x5_1 (ji17)).f1) = x120001_1
 {
 rw [if_pos c31] at H
 have c31b0 : (((rd_T41 x5_1 (ji17)).f1) == x120001_1) = true := beq_iff_eq.mpr c31
 have c31b1 : (((rd_T41 x5_1 (ji17)).f1) != x120001_1) = false := bne_eq_false_iff_eq.mpr c31
 clear c31
 by_cases c32 : ((rd_T41 x5_1 (ji17)).f0) > x120000_1
 {
 rw [if_pos c32] at H
 have c32b0 : decide (x120000_1 < ((rd_T41 x5_1 (ji17)).f0)) = true := decide_eq_true c32
 clear c32
 by_cases c33 : 0 ≤ x6_1
 {
 rw [if_pos c33] at H
 have c33b0 : decide (0 ≤ x6_1) = true := decide_eq_true c33
 clear c33
 by_cases c34 : x6_1 < (x5_1.length : Int)
 {
 rw [if_pos c34] at H
 have c34b0 : decide (x6_1 < (x5_1.length : Int)) = true := decide_eq_true c34
 clear c34
 obtain ⟨y139, hy139⟩ : ∃ y_ : List (S41), y_ = (x5_1.set (x6_1 : Int).toNat (⟨(rd_T41 x5_1 (ji17)).f0, (rd_T41 x5_1 (ji17)).f1⟩ : S41)) := ⟨_, rfl⟩
 replace H : (s_l15Insert.l0 k1 (y139.set ((ji17) : Int).toNat (⟨x120000_1, x120001_1⟩ : S41)) ji17 x120000_1 x120001_1) = some r := by first | (rw [hy139]; with_reducible exact H) | (have H2_ := (Option.bind_some _ _).symm.trans H; rw [hy139]; with_reducible exact H2_) | (have H2_ := (Option.bind_some _ _).symm.trans H; with_reducible exact H2_) | with_reducible exact H | (rw [hy139]; exact H) | exact H
 have Ny139 := aM hy139
 clear hy139
 obtain ⟨y140, hy140⟩ : ∃ y_ : List (S41), y_ = (y139.set ((ji17) : Int).toNat (⟨x120000_1, x120001_1⟩ : S41)) := ⟨_, rfl⟩
 replace H : (s_l15Insert.l0 k1 y140 ji17 x120000_1 x120001_1) = some r := by first | (rw [hy140]; with_reducible exact H) | (have H2_ := (Option.bind_some _ _).symm.trans H; rw [hy140]; with_reducible exact H2_) | (have H2_ := (Option.bind_some _ _).symm.trans H; with_reducible exact H2_) | with_reducible exact H | (rw [hy140]; exact H) | exact H
 have Ny140 := aM hy140
 clear hy140
 have H' := aM H
 clear H
 try go_wp2
 replace HO_5 := aM (Kd.R_drew HO_5.out)
 replace BK119 := aM (blk_drew BK119.out)
 replace HB := aM (below_drew1 HB.out)
 have p132 : 0 ≤ ((ji17) : Int) := dX
 have q132 : (ji17) < (x5_1.length : Int) := dX
 obtain ⟨ad132, e132, hx132_0, hx132_1⟩ := at_T41 (Kd.R_reads' HO_5.out).2.2 (ji17) p132 q132
 cases e132
 replace p132 := eq_true p132
 replace q132 := eq_true q132
 have p136 : 0 ≤ ((ji17) : Int) := dX
 have q136 : (ji17) < (x5_1.length : Int) := dX
 obtain ⟨ad136, e136, hx136_0, hx136_1⟩ := at_T41 (Kd.R_reads' HO_5.out).2.2 (ji17) p136 q136
 obtain rfl : ad132 = ad136 := (by injection e136)
 replace p136 := eq_true p136
 replace q136 := eq_true q136
 have p137 : 0 ≤ ((ji17) : Int) := dX
 have q137 : (ji17) < (x5_1.length : Int) := dX
 obtain ⟨ad137, e137, hx137_0, hx137_1⟩ := at_T41 (Kd.R_reads' HO_5.out).2.2 (ji17) p137 q137
 obtain rfl : ad132 = ad137 := (by injection e137)
 replace p137 := eq_true p137
 replace q137 := eq_true q137
 refine start_ (n := 35) (S := fun w' => w'.cell? ⟨gb119, 0, none⟩ = some (.int .i64 x120000_1) ∧ w'.cell? ⟨gb119, 1, none⟩ = some (.int .i64 x120001_1) ∧ w'.cell? (ad132.add (((ji17)).toNat * 2)) = some (.int .i64 ((rd_T41 x5_1 (ji17)).f0)) ∧ w'.cell? ⟨(ad132.add (((ji17)).toNat * 2)).block, (ad132.add (((ji17)).toNat * 2)).off + 1, none⟩ = some (.int .i64 ((rd_T41 x5_1 (ji17)).f1)) ∧ w'.cell? (ad132.add (((ji17)).toNat * 2)) = some (.int .i64 ((rd_T41 x5_1 (ji17)).f0)) ∧ w'.cell? ⟨(ad132.add (((ji17)).toNat * 2)).block, (ad132.add (((ji17)).toNat * 2)).off + 1, none⟩ = some (.int .i64 ((rd_T41 x5_1 (ji17)).f1)) ∧ w'.cell? (ad132.add (((ji17)).toNat * 2)) = some (.int .i64 ((rd_T41 x5_1 (ji17)).f0)) ∧ w'.cell? ⟨(ad132.add (((ji17)).toNat * 2)).block, (ad132.add (((ji17)).toNat * 2)).off + 1, none⟩ = some (.int .i64 ((rd_T41 x5_1 (ji17)).f1))) (ds := []) #[ff,ff,ff,ff,ff,ff,ff,ff,ff,ff,ff,ff,ff,ff,ff,ff,ff,ff,ff,ff,ff,ff,ff,ff,ff,ff,ff,ff,ff,ff,ff,ff,ff,ff,ff] (by kernel_rfl) rfl rfl ⟨cz20 BK119.out, cz21 BK119.out, hx132_0, hx132_1, hx136_0, hx136_1, hx137_0, hx137_1⟩ (fun hHeld => ?_); refine with_tabW s_l15Insert.tab3 s_l15Insert.bits3 (fun HT_ HW_ => ?_)
 generalize wr.drew = w37 at HO_5 BK119 HB hx132_0 hx132_1 hx136_0 hx136_1 hx137_0 hx137_1 hHeld ⊢
 refine pX 0 16 (fl 35 1) rfl rfl HT_.out ?_
 refine pX 1 17 (fl 35 3) rfl rfl HT_.out ?_
 refine pX 2 18 (fl 35 7) rfl rfl HT_.out ?_
 refine pX 3 19 (fl 35 15) rfl rfl HT_.out ?_
 refine pX 4 20 (fl 35 31) rfl rfl HT_.out ?_
 refine pX 5 21 (fl 35 63) rfl rfl HT_.out ?_
 refine pX 6 22 (fl 35 127) rfl rfl HT_.out ?_
 refine pX 7 23 (fl 35 255) rfl rfl HT_.out ?_
 refine pX 9 25 (fl 35 767) rfl rfl HT_.out ?_
 refine tX8 8 24 (fl 35 1023) rfl rfl HT_.out HW_.out hHeld ?_
 refine tX8 10 26 (fl 35 2047) rfl rfl HT_.out HW_.out hHeld ?_
 refine pX 11 27 (fl 35 4095) rfl rfl HT_.out ?_
 refine pX 12 28 (fl 35 8191) rfl rfl HT_.out ?_
 refine pX 13 29 (fl 35 16383) rfl rfl HT_.out ?_
 refine pX 14 30 (fl 35 32767) rfl rfl HT_.out ?_
 refine pX 15 31 (fl 35 65535) rfl rfl HT_.out ?_
 refine pX 16 32 (fl 35 131071) rfl rfl HT_.out ?_
 refine pX 17 33 (fl 35 262143) rfl rfl HT_.out ?_
 refine pX 19 35 (fl 35 786431) rfl rfl HT_.out ?_
 refine tX8 18 34 (fl 35 1048575) rfl rfl HT_.out HW_.out hHeld ?_
 refine tX8 20 36 (fl 35 2097151) rfl rfl HT_.out HW_.out hHeld ?_
 refine pX 21 37 (fl 35 4194303) rfl rfl HT_.out ?_
 refine pX 22 38 (fl 35 8388607) rfl rfl HT_.out ?_
 refine pX 23 39 (fl 35 16777215) rfl rfl HT_.out ?_
 refine pX 24 40 (fl 35 33554431) rfl rfl HT_.out ?_
 refine pX 25 41 (fl 35 67108863) rfl rfl HT_.out ?_
 refine pX 26 42 (fl 35 134217727) rfl rfl HT_.out ?_
 refine pX 27 43 (fl 35 268435455) rfl rfl HT_.out ?_
 refine pX 29 45 (fl 35 805306367) rfl rfl HT_.out ?_
 refine tX8 28 44 (fl 35 1073741823) rfl rfl HT_.out HW_.out hHeld ?_
 refine tX8 30 46 (fl 35 2147483647) rfl rfl HT_.out HW_.out hHeld ?_
 refine pX 31 47 (fl 35 4294967295) rfl rfl HT_.out ?_
 refine pX 32 48 (fl 35 8589934591) rfl rfl HT_.out ?_
 refine pX 33 49 (fl 35 17179869183) rfl rfl HT_.out ?_
 refine pX 34 50 (fl 35 34359738367) rfl rfl HT_.out ?_
 refine done_ (done_of HT_.out (by kernel_rfl)) ?_
 have p138 : 0 ≤ ((ji17) : Int) := dX
 have q138 : (ji17) < (x5_1.length : Int) := dX
 obtain ⟨ad138, e138, hx138_0, hx138_1⟩ := at_T41 (Kd.R_reads' HO_5.out).2.2 (ji17) p138 q138
 obtain rfl : ad132 = ad138 := (by injection e138)
 replace p138 := eq_true p138
 replace q138 := eq_true q138
 have p35 : 0 ≤ (x6_1 : Int) := dX
 have q35 : (x6_1 : Int) < ((x5_1.length : Int) : Int) := dX
 obtain ⟨go35, co35, eo35, gb35, gl35, cl35, HG35⟩ := Kd.R_form HO_5.out (by omega)
 (first | cases eo35 | (injection eo35 with ea_ en_ ec_; (first | subst ea_ | (injection ea_ with ea_; subst ea_)); subst ec_; clear en_))
 have GB35 := aM gb35
 have GG35 := aM HG35
 clear gb35 gl35 HG35
 (first | simp only [add_plain] at hx132_0 | skip)
 (first | simp only [add_plain] at hx132_1 | skip)
 (first | simp only [add_plain] at hx136_0 | skip)
 (first | simp only [add_plain] at hx136_1 | skip)
 (first | simp only [add_plain] at hx137_0 | skip)
 (first | simp only [add_plain] at hx137_1 | skip)
 (first | simp only [add_plain] at hx138_0 | skip)
 (first | simp only [add_plain] at hx138_1 | skip)
 obtain ⟨ce35, hcl35, hM35, hcc35, hfr35⟩ := Kd.R_elem HO_5.out z41 (x6_1 : Int) p35 q35
 obtain rfl := k41_openM hM35
 have hx35_0 : w37.cell? ⟨go35, (x6_1 : Int).toNat * 2, none⟩ = some (.int .i64 ((rd_T41 x5_1 x6_1).f0)) := hcc35 0 _ rfl
 have hx35_1 : w37.cell? ⟨go35, (x6_1 : Int).toNat * 2 + 1, none⟩ = some (.int .i64 ((rd_T41 x5_1 x6_1).f1)) := hcc35 1 _ rfl
 have hf35_0 : w37.frozen? ⟨go35, (x6_1 : Int).toNat * 2, none⟩ = false := hfr35 0
 have hf35_1 : w37.frozen? ⟨go35, (x6_1 : Int).toNat * 2 + 1, none⟩ = false := hfr35 1
 clear hcl35 hcc35 hfr35 hM35
 replace p35 := eq_true p35
 replace q35 := eq_true q35
 have HX38 := aM (show Kd.R k41 41 w37 w.heap.size (fun k_ => k_ ≠ gb119) (.slice (some ⟨go35, 0, none⟩) x5_1.length co15) x5_1 from (rX HO_5.out))
 obtain ⟨ce38, hcl38, hM38, hcc38, hfr38⟩ := Kd.R_elem HX38.out z41 (x6_1 : Int) (dX) (by have h_ : (x6_1 : Int) < ((x5_1.length : Int) : Int) := dX; first | exact h_ | (have e_ := (Kd.R_reads' HO_5.out).1; omega) | simpa using h_)
 obtain rfl := k41_openM hM38
 have HP38 := Kd.R_seg HX38.out (x6_1 : Int) (dX) (by have h_ : (x6_1 : Int) < ((x5_1.length : Int) : Int) := dX; first | exact h_ | (have e_ := (Kd.R_reads' HO_5.out).1; omega) | simpa using h_) (seg := [.int .i64 ((rd_T41 x5_1 (ji17)).f0), .int .i64 ((rd_T41 x5_1 (ji17)).f1)]) (j := 0) hcl38 hcc38 (show 2 ≤ 2 from by decide) (x' := (⟨(rd_T41 x5_1 (ji17)).f0, (rd_T41 x5_1 (ji17)).f1⟩ : S41)) (k41_mkM _ _ _ (⟨(rd_T41 x5_1 (ji17)).f0, (rd_T41 x5_1 (ji17)).f1⟩ : S41) ) (fun _ hk => hk)
 have hx38_0 := hcc38 0 _ rfl
 (try simp only [show (k41).sz = 2 from rfl, Nat.mul_one, Nat.add_zero] at hx38_0)
 have hf38_0 := hfr38 0
 (try simp only [show (k41).sz = 2 from rfl, Nat.mul_one, Nat.add_zero] at hf38_0)
 have hx38_1 := hcc38 1 _ rfl
 (try simp only [show (k41).sz = 2 from rfl, Nat.mul_one, Nat.add_zero] at hx38_1)
 have hf38_1 := hfr38 1
 (try simp only [show (k41).sz = 2 from rfl, Nat.mul_one, Nat.add_zero] at hf38_1)
 clear hcl38 hcc38 hfr38 hM38
 try go_wp2_with (first | ((with_reducible refine gate_store (t := 41) (p := 60) rfl ?_); refine store_event (t := 41) (p := 60) (v := ?vo_w39) (w1 := ((w37.setCell ⟨go35, (x6_1 : Int).toNat * 2, none⟩ (.int .i64 ((rd_T41 x5_1 (ji17)).f0))).setCell ⟨go35, (x6_1 : Int).toNat * 2 + 1, none⟩ (.int .i64 ((rd_T41 x5_1 (ji17)).f1)))) ?hg ?ho ?hn ?hr ?_; (case ho => rfl); (case hg => rfl); (case hn => rfl); (case hr => first | (go_simp; done) | (go_simp; rfl)); intro w39 hw; have hg : w37.grownBy w39 (some go35) := (by rw [hw]; exact HP38.2); have hp_ : Kd.R k41 41 w39 w.heap.size (fun k_ => k_ ≠ gb119) (.slice (some ⟨go35, 0, none⟩) x5_1.length co15) y139 := (by rw [hw, Ny139.out]; exact HP38.1); clear HP38; replace BK119 := aM (bgX BK119.out hg (Kd.R_away HO_5.out (fun _ hk => hk))); replace HO_5 := aM (hp_); replace HB := aM ((by rw [hw]; exact below_set (below_set (HB.out) GB35.out) GB35.out : Below w.heap.size w w39)); clear hg hw hp_; have hcz40_0 := cz20 BK119.out; have hcz40_1 := cz21 BK119.out; have hfz40_0 := blk_frozen BK119.out 0; have hfz40_1 := blk_frozen BK119.out 1; have p36 : 0 ≤ ((ji17) : Int) := dX; have q36 : ((ji17) : Int) < ((x5_1.length : Int) : Int) := dX; obtain ⟨ce36, hcl36, hM36, hcc36, hfr36⟩ := Kd.R_elem HO_5.out z41 ((ji17) : Int) p36 q36; obtain rfl := k41_openM hM36; have hx36_0 : w39.cell? ⟨go35, ((ji17) : Int).toNat * 2, none⟩ = some (.int .i64 ((rd_T41 y139 (ji17)).f0)) := hcc36 0 _ rfl; have hx36_1 : w39.cell? ⟨go35, ((ji17) : Int).toNat * 2 + 1, none⟩ = some (.int .i64 ((rd_T41 y139 (ji17)).f1)) := hcc36 1 _ rfl; have hf36_0 : w39.frozen? ⟨go35, ((ji17) : Int).toNat * 2, none⟩ = false := hfr36 0; have hf36_1 : w39.frozen? ⟨go35, ((ji17) : Int).toNat * 2 + 1, none⟩ = false := hfr36 1; clear hcl36 hcc36 hfr36 hM36; replace p36 := eq_true p36; replace q36 := eq_true q36; have HX41 := aM (show Kd.R k41 41 w39 w.heap.size (fun k_ => k_ ≠ gb119) (.slice (some ⟨go35, 0, none⟩) x5_1.length co15) y139 from (rX HO_5.out)); obtain ⟨ce41, hcl41, hM41, hcc41, hfr41⟩ := Kd.R_elem HX41.out z41 ((ji17) : Int) (dX) (by have h_ : ((ji17) : Int) < ((x5_1.length : Int) : Int) := dX; first | exact h_ | (have e_ := (Kd.R_reads' HO_5.out).1; omega) | simpa using h_); obtain rfl := k41_openM hM41; have HP41 := Kd.R_seg HX41.out ((ji17) : Int) (dX) (by have h_ : ((ji17) : Int) < ((x5_1.length : Int) : Int) := dX; first | exact h_ | (have e_ := (Kd.R_reads' HO_5.out).1; omega) | simpa using h_) (seg := [.int .i64 x120000_1, .int .i64 x120001_1]) (j := 0) hcl41 hcc41 (show 2 ≤ 2 from by decide) (x' := (⟨x120000_1, x120001_1⟩ : S41)) (k41_mkM _ _ _ (⟨x120000_1, x120001_1⟩ : S41) ) (fun _ hk => hk); have hx41_0 := hcc41 0 _ rfl; (try simp only [show (k41).sz = 2 from rfl, Nat.mul_one, Nat.add_zero] at hx41_0); have hf41_0 := hfr41 0; (try simp only [show (k41).sz = 2 from rfl, Nat.mul_one, Nat.add_zero] at hf41_0); have hx41_1 := hcc41 1 _ rfl; (try simp only [show (k41).sz = 2 from rfl, Nat.mul_one, Nat.add_zero] at hx41_1); have hf41_1 := hfr41 1; (try simp only [show (k41).sz = 2 from rfl, Nat.mul_one, Nat.add_zero] at hf41_1); clear hcl41 hcc41 hfr41 hM41) | ((with_reducible refine gate_store (t := 41) (p := 65) rfl ?_); refine store_event (t := 41) (p := 65) (v := ?vo_w42) (w1 := ((w39.setCell ⟨go35, ((ji17) : Int).toNat * 2, none⟩ (.int .i64 x120000_1)).setCell ⟨go35, ((ji17) : Int).toNat * 2 + 1, none⟩ (.int .i64 x120001_1))) ?hg ?ho ?hn ?hr ?_; (case ho => rfl); (case hg => rfl); (case hn => rfl); (case hr => first | (go_simp; done) | (go_simp; rfl)); intro w42 hw; have hg : w39.grownBy w42 (some go35) := (by rw [hw]; exact HP41.2); have hp_ : Kd.R k41 41 w42 w.heap.size (fun k_ => k_ ≠ gb119) (.slice (some ⟨go35, 0, none⟩) x5_1.length co15) y140 := (by rw [hw, Ny140.out]; exact HP41.1); clear HP41; replace BK119 := aM (bgX BK119.out hg (Kd.R_away HO_5.out (fun _ hk => hk))); replace HO_5 := aM (hp_); replace HB := aM ((by rw [hw]; exact below_set (below_set (HB.out) GB35.out) GB35.out : Below w.heap.size w w42)); clear hg hw hp_))
 (try simp only [← hl5_1])
 go_roundg k1
 case measure => have := HK1.out; omega
 case rel => exact ⟨(y140), (ji17), (x120000_1), (x120001_1), (by first | rfl | (simp; done) | (simp only [← hji17] <;> (first | rfl | simp)) | (simp [*]; done)), H', ⟨by have := HK1.out; omega⟩, ⟨by (try simp only [hl5_1]); (with_reducible repeat (first|apply rA|apply rN|apply rD)); exact HO_5.out⟩, ⟨by (try simp only [hl5_1]); (with_reducible repeat (first|refine kN ?_ _|refine kD ?_|refine kA ?_ _)); exact BK119.out⟩, ⟨bX1 HB.out GE119.out⟩⟩
 }
 {
 rw [if_neg c34] at H
 exact absurd H (by simp)
 }
 }
 {
 rw [if_neg c33] at H
 exact absurd H (by simp)
 }
 }
 {
 rw [if_neg c32] at H
 have c32b0 : decide (x120000_1 < ((rd_T41 x5_1 (ji17)).f0)) = false := decide_eq_false c32
 clear c32
 obtain rfl := Option.some.inj H
 try go_wp2
 replace HO_5 := aM (Kd.R_drew HO_5.out)
 replace BK119 := aM (blk_drew BK119.out)
 replace HB := aM (below_drew1 HB.out)
 have p132 : 0 ≤ ((ji17) : Int) := dX
 have q132 : (ji17) < (x5_1.length : Int) := dX
 obtain ⟨ad132, e132, hx132_0, hx132_1⟩ := at_T41 (Kd.R_reads' HO_5.out).2.2 (ji17) p132 q132
 cases e132
 replace p132 := eq_true p132
 replace q132 := eq_true q132
 have p136 : 0 ≤ ((ji17) : Int) := dX
 have q136 : (ji17) < (x5_1.length : Int) := dX
 obtain ⟨ad136, e136, hx136_0, hx136_1⟩ := at_T41 (Kd.R_reads' HO_5.out).2.2 (ji17) p136 q136
 obtain rfl : ad132 = ad136 := (by injection e136)
 replace p136 := eq_true p136
 replace q136 := eq_true q136
 have p137 : 0 ≤ ((ji17) : Int) := dX
 have q137 : (ji17) < (x5_1.length : Int) := dX
 obtain ⟨ad137, e137, hx137_0, hx137_1⟩ := at_T41 (Kd.R_reads' HO_5.out).2.2 (ji17) p137 q137
 obtain rfl : ad132 = ad137 := (by injection e137)
 replace p137 := eq_true p137
 replace q137 := eq_true q137
 refine start_ (n := 35) (S := fun w' => w'.cell? ⟨gb119, 0, none⟩ = some (.int .i64 x120000_1) ∧ w'.cell? ⟨gb119, 1, none⟩ = some (.int .i64 x120001_1) ∧ w'.cell? (ad132.add (((ji17)).toNat * 2)) = some (.int .i64 ((rd_T41 x5_1 (ji17)).f0)) ∧ w'.cell? ⟨(ad132.add (((ji17)).toNat * 2)).block, (ad132.add (((ji17)).toNat * 2)).off + 1, none⟩ = some (.int .i64 ((rd_T41 x5_1 (ji17)).f1)) ∧ w'.cell? (ad132.add (((ji17)).toNat * 2)) = some (.int .i64 ((rd_T41 x5_1 (ji17)).f0)) ∧ w'.cell? ⟨(ad132.add (((ji17)).toNat * 2)).block, (ad132.add (((ji17)).toNat * 2)).off + 1, none⟩ = some (.int .i64 ((rd_T41 x5_1 (ji17)).f1)) ∧ w'.cell? (ad132.add (((ji17)).toNat * 2)) = some (.int .i64 ((rd_T41 x5_1 (ji17)).f0)) ∧ w'.cell? ⟨(ad132.add (((ji17)).toNat * 2)).block, (ad132.add (((ji17)).toNat * 2)).off + 1, none⟩ = some (.int .i64 ((rd_T41 x5_1 (ji17)).f1))) (ds := []) #[ff,ff,ff,ff,ff,ff,ff,ff,ff,ff,ff,ff,ff,ff,ff,ff,ff,ff,ff,ff,ff,ff,ff,ff,ff,ff,ff,ff,ff,ff,ff,ff,ff,ff,ff] (by kernel_rfl) rfl rfl ⟨cz20 BK119.out, cz21 BK119.out, hx132_0, hx132_1, hx136_0, hx136_1, hx137_0, hx137_1⟩ (fun hHeld => ?_); refine with_tabW s_l15Insert.tab3 s_l15Insert.bits3 (fun HT_ HW_ => ?_)
 generalize wr.drew = w43 at HO_5 BK119 HB hx132_0 hx132_1 hx136_0 hx136_1 hx137_0 hx137_1 hHeld ⊢
 refine pX 0 16 (fl 35 1) rfl rfl HT_.out ?_
 refine pX 1 17 (fl 35 3) rfl rfl HT_.out ?_
 refine pX 2 18 (fl 35 7) rfl rfl HT_.out ?_
 refine pX 3 19 (fl 35 15) rfl rfl HT_.out ?_
 refine pX 4 20 (fl 35 31) rfl rfl HT_.out ?_
 refine pX 5 21 (fl 35 63) rfl rfl HT_.out ?_
 refine pX 6 22 (fl 35 127) rfl rfl HT_.out ?_
 refine pX 7 23 (fl 35 255) rfl rfl HT_.out ?_
 refine pX 9 25 (fl 35 767) rfl rfl HT_.out ?_
 refine tX8 8 24 (fl 35 1023) rfl rfl HT_.out HW_.out hHeld ?_
 refine tX8 10 26 (fl 35 2047) rfl rfl HT_.out HW_.out hHeld ?_
 refine pX 11 27 (fl 35 4095) rfl rfl HT_.out ?_
 refine pX 12 28 (fl 35 8191) rfl rfl HT_.out ?_
 refine pX 13 29 (fl 35 16383) rfl rfl HT_.out ?_
 refine pX 14 30 (fl 35 32767) rfl rfl HT_.out ?_
 refine pX 15 31 (fl 35 65535) rfl rfl HT_.out ?_
 refine pX 16 32 (fl 35 131071) rfl rfl HT_.out ?_
 refine pX 17 33 (fl 35 262143) rfl rfl HT_.out ?_
 refine pX 19 35 (fl 35 786431) rfl rfl HT_.out ?_
 refine tX8 18 34 (fl 35 1048575) rfl rfl HT_.out HW_.out hHeld ?_
 refine tX8 20 36 (fl 35 2097151) rfl rfl HT_.out HW_.out hHeld ?_
 refine pX 21 37 (fl 35 4194303) rfl rfl HT_.out ?_
 refine pX 22 38 (fl 35 8388607) rfl rfl HT_.out ?_
 refine pX 23 39 (fl 35 16777215) rfl rfl HT_.out ?_
 refine pX 24 40 (fl 35 33554431) rfl rfl HT_.out ?_
 refine pX 25 41 (fl 35 67108863) rfl rfl HT_.out ?_
 refine pX 26 42 (fl 35 134217727) rfl rfl HT_.out ?_
 refine pX 27 43 (fl 35 268435455) rfl rfl HT_.out ?_
 refine pX 29 45 (fl 35 805306367) rfl rfl HT_.out ?_
 refine tX8 28 44 (fl 35 1073741823) rfl rfl HT_.out HW_.out hHeld ?_
 refine tX8 30 46 (fl 35 2147483647) rfl rfl HT_.out HW_.out hHeld ?_
 refine pX 31 47 (fl 35 4294967295) rfl rfl HT_.out ?_
 refine pX 32 48 (fl 35 8589934591) rfl rfl HT_.out ?_
 refine pX 33 49 (fl 35 17179869183) rfl rfl HT_.out ?_
 refine pX 34 50 (fl 35 34359738367) rfl rfl HT_.out ?_
 refine done_ (done_of HT_.out (by kernel_rfl)) ?_
 try go_wp2
 go_ret
 exact ⟨_, by first | rfl | (simp [errW_none, errW_some] <;> rfl) | (simp only [← hji17]; first | rfl | (simp [errW_none, errW_some] <;> rfl)) | (simp [*, errW_none, errW_some] <;> rfl), by (with_reducible repeat (first|apply rA|apply rN|apply rD)); exact Kd.R_mono HO_5.out (fun _ hk => trivial), bX1 HB.out GE119.out⟩
 }
 }
 {
 rw [if_neg c31] at H
 have c31b0 : (((rd_T41 x5_1 (ji17)).f1) == x120001_1) = false := beq_eq_false_iff_ne.mpr c31
 have c31b1 : (((rd_T41 x5_1 (ji17)).f1) != x120001_1) = true := bne_iff_ne.mpr c31
 obtain rfl := Option.some.inj H
 try go_wp2
 replace HO_5 := aM (Kd.R_drew HO_5.out)
 replace BK119 := aM (blk_drew BK119.out)
 replace HB := aM (below_drew1 HB.out)
 have p132 : 0 ≤ ((ji17) : Int) := dX
 have q132 : (ji17) < (x5_1.length : Int) := dX
 obtain ⟨ad132, e132, hx132_0, hx132_1⟩ := at_T41 (Kd.R_reads' HO_5.out).2.2 (ji17) p132 q132
 cases e132
 replace p132 := eq_true p132
 replace q132 := eq_true q132
 have p136 : 0 ≤ ((ji17) : Int) := dX
 have q136 : (ji17) < (x5_1.length : Int) := dX
 obtain ⟨ad136, e136, hx136_0, hx136_1⟩ := at_T41 (Kd.R_reads' HO_5.out).2.2 (ji17) p136 q136
 obtain rfl : ad132 = ad136 := (by injection e136)
 replace p136 := eq_true p136
 replace q136 := eq_true q136
 refine start_ (n := 35) (S := fun w' => w'.cell? ⟨gb119, 0, none⟩ = some (.int .i64 x120000_1) ∧ w'.cell? ⟨gb119, 1, none⟩ = some (.int .i64 x120001_1) ∧ w'.cell? (ad132.add (((ji17)).toNat * 2)) = some (.int .i64 ((rd_T41 x5_1 (ji17)).f0)) ∧ w'.cell? ⟨(ad132.add (((ji17)).toNat * 2)).block, (ad132.add (((ji17)).toNat * 2)).off + 1, none⟩ = some (.int .i64 ((rd_T41 x5_1 (ji17)).f1)) ∧ w'.cell? (ad132.add (((ji17)).toNat * 2)) = some (.int .i64 ((rd_T41 x5_1 (ji17)).f0)) ∧ w'.cell? ⟨(ad132.add (((ji17)).toNat * 2)).block, (ad132.add (((ji17)).toNat * 2)).off + 1, none⟩ = some (.int .i64 ((rd_T41 x5_1 (ji17)).f1))) (ds := []) #[ff,ff,ff,ff,ff,ff,ff,ff,ff,ff,ff,ff,ff,ff,ff,ff,ff,ff,ff,ff,ff,ff,ff,ff,ff,ff,ff,ff,ff,ff,ff,ff,ff,ff,ff] (by kernel_rfl) rfl rfl ⟨cz20 BK119.out, cz21 BK119.out, hx132_0, hx132_1, hx136_0, hx136_1⟩ (fun hHeld => ?_); refine with_tabW s_l15Insert.tab3 s_l15Insert.bits3 (fun HT_ HW_ => ?_)
 generalize wr.drew = w44 at HO_5 BK119 HB hx132_0 hx132_1 hx136_0 hx136_1 hHeld ⊢
 refine pX 0 16 (fl 35 1) rfl rfl HT_.out ?_
 refine pX 1 17 (fl 35 3) rfl rfl HT_.out ?_
 refine pX 2 18 (fl 35 7) rfl rfl HT_.out ?_
 refine pX 3 19 (fl 35 15) rfl rfl HT_.out ?_
 refine pX 4 20 (fl 35 31) rfl rfl HT_.out ?_
 refine pX 5 21 (fl 35 63) rfl rfl HT_.out ?_
 refine pX 6 22 (fl 35 127) rfl rfl HT_.out ?_
 refine pX 7 23 (fl 35 255) rfl rfl HT_.out ?_
 refine pX 9 25 (fl 35 767) rfl rfl HT_.out ?_
 refine tX6 8 24 (fl 35 1023) rfl rfl HT_.out HW_.out hHeld ?_
 refine tX6 10 26 (fl 35 2047) rfl rfl HT_.out HW_.out hHeld ?_
 refine pX 11 27 (fl 35 4095) rfl rfl HT_.out ?_
 refine pX 12 28 (fl 35 8191) rfl rfl HT_.out ?_
 refine pX 13 29 (fl 35 16383) rfl rfl HT_.out ?_
 refine pX 14 30 (fl 35 32767) rfl rfl HT_.out ?_
 refine pX 15 31 (fl 35 65535) rfl rfl HT_.out ?_
 refine pX 16 32 (fl 35 131071) rfl rfl HT_.out ?_
 refine pX 17 33 (fl 35 262143) rfl rfl HT_.out ?_
 refine pX 19 35 (fl 35 786431) rfl rfl HT_.out ?_
 refine tX6 18 34 (fl 35 1048575) rfl rfl HT_.out HW_.out hHeld ?_
 refine tX6 20 36 (fl 35 2097151) rfl rfl HT_.out HW_.out hHeld ?_
 refine pX 21 37 (fl 35 4194303) rfl rfl HT_.out ?_
 refine pX 22 38 (fl 35 8388607) rfl rfl HT_.out ?_
 refine uX 23 39 (fl 35 16777215) rfl rfl HT_.out ?_
 refine uX 24 40 (fl 35 33554431) rfl rfl HT_.out ?_
 refine uX 25 41 (fl 35 67108863) rfl rfl HT_.out ?_
 refine uX 26 42 (fl 35 134217727) rfl rfl HT_.out ?_
 refine uX 27 43 (fl 35 268435455) rfl rfl HT_.out ?_
 refine uX 28 44 (fl 35 536870911) rfl rfl HT_.out ?_
 refine uX 29 45 (fl 35 1073741823) rfl rfl HT_.out ?_
 refine uX 30 46 (fl 35 2147483647) rfl rfl HT_.out ?_
 refine uX 31 47 (fl 35 4294967295) rfl rfl HT_.out ?_
 refine pX 32 48 (fl 35 8589934591) rfl rfl HT_.out ?_
 refine pX 33 49 (fl 35 17179869183) rfl rfl HT_.out ?_
 refine pX 34 50 (fl 35 34359738367) rfl rfl HT_.out ?_
 refine done_ (done_of HT_.out (by kernel_rfl)) ?_
 try go_wp2
 go_ret
 exact ⟨_, by first | rfl | (simp [errW_none, errW_some] <;> rfl) | (simp only [← hji17]; first | rfl | (simp [errW_none, errW_some] <;> rfl)) | (simp [*, errW_none, errW_some] <;> rfl), by (with_reducible repeat (first|apply rA|apply rN|apply rD)); exact Kd.R_mono HO_5.out (fun _ hk => trivial), bX1 HB.out GE119.out⟩
 }
 }
 }
 {
 rw [if_neg c19] at H
 exact absurd H (by simp)
 }
 }
 {
 rw [if_neg c18] at H
 exact absurd H (by simp)
 }
 }
 {
 rw [if_neg c16] at H
 have c16b0 : decide (0 < x6_1) = false := decide_eq_false c16
 clear c16
 obtain rfl := Option.some.inj H
 try go_wp2
 replace HO_5 := aM (Kd.R_drew HO_5.out)
 replace BK119 := aM (blk_drew BK119.out)
 replace HB := aM (below_drew1 HB.out)
 refine start_ (n := 35) (S := fun w' => True) (ds := []) #[ff,ff,ff,ff,ff,ff,ff,ff,ff,ff,ff,ff,ff,ff,ff,ff,ff,ff,ff,ff,ff,ff,ff,ff,ff,ff,ff,ff,ff,ff,ff,ff,ff,ff,ff] (by kernel_rfl) rfl rfl trivial (fun hHeld => ?_); refine with_tabW s_l15Insert.tab3 s_l15Insert.bits3 (fun HT_ HW_ => ?_)
 generalize wr.drew = w45 at HO_5 BK119 HB hHeld ⊢
 refine pX 0 16 (fl 35 1) rfl rfl HT_.out ?_
 refine pX 1 17 (fl 35 3) rfl rfl HT_.out ?_
 refine pX 2 18 (fl 35 7) rfl rfl HT_.out ?_
 refine uX 3 19 (fl 35 15) rfl rfl HT_.out ?_
 refine uX 4 20 (fl 35 31) rfl rfl HT_.out ?_
 refine uX 5 21 (fl 35 63) rfl rfl HT_.out ?_
 refine uX 6 22 (fl 35 127) rfl rfl HT_.out ?_
 refine uX 7 23 (fl 35 255) rfl rfl HT_.out ?_
 refine uX 8 24 (fl 35 511) rfl rfl HT_.out ?_
 refine uX 9 25 (fl 35 1023) rfl rfl HT_.out ?_
 refine uX 10 26 (fl 35 2047) rfl rfl HT_.out ?_
 refine uX 11 27 (fl 35 4095) rfl rfl HT_.out ?_
 refine uX 12 28 (fl 35 8191) rfl rfl HT_.out ?_
 refine uX 13 29 (fl 35 16383) rfl rfl HT_.out ?_
 refine uX 14 30 (fl 35 32767) rfl rfl HT_.out ?_
 refine uX 15 31 (fl 35 65535) rfl rfl HT_.out ?_
 refine uX 16 32 (fl 35 131071) rfl rfl HT_.out ?_
 refine uX 17 33 (fl 35 262143) rfl rfl HT_.out ?_
 refine uX 18 34 (fl 35 524287) rfl rfl HT_.out ?_
 refine uX 19 35 (fl 35 1048575) rfl rfl HT_.out ?_
 refine uX 20 36 (fl 35 2097151) rfl rfl HT_.out ?_
 refine uX 21 37 (fl 35 4194303) rfl rfl HT_.out ?_
 refine uX 22 38 (fl 35 8388607) rfl rfl HT_.out ?_
 refine uX 23 39 (fl 35 16777215) rfl rfl HT_.out ?_
 refine uX 24 40 (fl 35 33554431) rfl rfl HT_.out ?_
 refine uX 25 41 (fl 35 67108863) rfl rfl HT_.out ?_
 refine uX 26 42 (fl 35 134217727) rfl rfl HT_.out ?_
 refine uX 27 43 (fl 35 268435455) rfl rfl HT_.out ?_
 refine uX 28 44 (fl 35 536870911) rfl rfl HT_.out ?_
 refine uX 29 45 (fl 35 1073741823) rfl rfl HT_.out ?_
 refine uX 30 46 (fl 35 2147483647) rfl rfl HT_.out ?_
 refine uX 31 47 (fl 35 4294967295) rfl rfl HT_.out ?_
 refine uX 32 48 (fl 35 8589934591) rfl rfl HT_.out ?_
 refine uX 33 49 (fl 35 17179869183) rfl rfl HT_.out ?_
 refine pX 34 50 (fl 35 34359738367) rfl rfl HT_.out ?_
 refine done_ (done_of HT_.out (by kernel_rfl)) ?_
 try go_wp2
 go_ret
 exact ⟨_, eX, by (with_reducible repeat (first|apply rA|apply rN|apply rD)); exact Kd.R_mono HO_5.out (fun _ hk => trivial), bX1 HB.out GE119.out⟩
 }
 }
 {
 rw [if_neg c4] at H
 exact absurd H (by simp)
 }
 }
 {
 rw [if_neg c3] at H
 exact absurd H (by simp)
 }

end Go.Proofs.Ytlbhjemkjkdndaa.S
