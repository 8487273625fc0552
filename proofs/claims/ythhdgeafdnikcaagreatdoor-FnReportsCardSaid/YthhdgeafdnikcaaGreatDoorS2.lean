-- PRINTED by print.py (a twelfth state) out of the translation. Not trusted: Lean checks it.
import Derived.Test.YthhdgeafdnikcaaGreatDoorS0
import Derived.Test.YthhdgeafdnikcaaGreatDoorS1
namespace Go.Proofs.YthhdgeafdnikcaaGreatDoor.S
open Go.RowKit Go.Proofs.YthhdgeafdnikcaaGreatDoorW.PrintWords Go.Proofs.YthhdgeafdnikcaaGreatDoorW.PrintLast Go.Proofs.YthhdgeafdnikcaaGreatDoorW.PrintMore
attribute [local go_sem] max2_int min2_int max_two min_two max_three min_three max_four min_four   -- for this text's walks alone
set_option linter.unusedVariables false
set_option linter.unusedSimpArgs false

/-! ### spec_PermOk: function 120 -/
/-! by hand -/
theorem hand_in01 (a b c : Int) : spec_l01In.f a b c = some (decide (b ≤ a ∧ a ≤ c)) := by
  unfold spec_l01In.f
  split
  · rename_i h
    by_cases h2 : a ≤ c
    · rw [decide_eq_true h2, decide_eq_true ⟨h, h2⟩]
    · rw [decide_eq_false h2, decide_eq_false (fun h => h2 h.2)]
  · rename_i h
    rw [decide_eq_false (fun h2 => h h2.1)]
theorem hand_has_l0 (l : List Int) (hl : l.length ≤ 4611686018427387904) (x : Int) : ∀ (suf pre : List Int), l = pre ++ suf →
    Ev (fun k => spec_l02Has.l0 k x l (l.length : Int) (pre.length : Int)) (decide (x ∈ suf)) := by
  intro suf
  induction suf with
  | nil =>
    intro pre h
    subst h
    refine Ev.step (f := fun _ => some false) (fun k => ?_) (by simpa using Ev.now false)
    simp only [spec_l02Has.l0]
    rw [if_neg (by simp)]
  | cons c suf ih =>
    intro pre h
    have := ih (pre ++ [c]) (by simp [h])
    subst h
    have h1 : ((pre.length : Nat) : Int) < ((pre ++ c :: suf).length : Int) := by simp; omega
    have hr : rd (pre ++ c :: suf) (pre.length : Int) = c := by simp [rd, List.getD]
    have hw : wrap64 ((pre.length : Int) + 1) = ((pre ++ [c]).length : Int) := by simp at hl ⊢; unfold wrap64; omega
    by_cases hc : c = x
    · refine Ev.step (f := fun _ => some true) (fun k => ?_) (by simpa [hc] using Ev.now true)
      simp only [spec_l02Has.l0]
      rw [if_pos h1, if_pos (Int.natCast_nonneg _), if_pos h1, hr, if_pos hc]
    · rw [show decide (x ∈ c :: suf) = decide (x ∈ suf) by simp [Ne.symm hc]]
      refine Ev.step (fun k => ?_) this
      simp only [spec_l02Has.l0]
      rw [if_pos h1, if_pos (Int.natCast_nonneg _), if_pos h1, hr, if_neg hc, hw]
theorem hand_has (l : List Int) (hl : l.length ≤ 4611686018427387904) (x : Int) : ∃ k, spec_l02Has.f k l x = some (decide (x ∈ l)) := by
 obtain ⟨k, hk⟩ := Ev.rounds (hand_has_l0 l hl x l [] rfl)
 exact ⟨k, by simpa [spec_l02Has.f] using hk⟩
/-- The reference's way: each is in range and none stands before. -/
def permSGo (n : Int) : List Int → List Int → Bool
  | _, [] => true
  | pre, x :: xs => if 0 ≤ x ∧ x ≤ n - 1 then (if x ∈ pre then false else permSGo n (pre ++ [x]) xs) else false
def permSB (p : List Int) : Bool := if p.length ≤ 24 then permSGo p.length [] p else false
def spec_PermOk.f (l0 : List Int) : Option Bool := some (permSB l0)
set_option maxHeartbeats 8000000 in
set_option maxRecDepth 100000 in
theorem spec_PermOk.calls_le (A0 : Option Addr) (c0 : Nat) (l0 : List (Int)) (r : Bool) (w : World) (hr0 : Kd.C (Kd.int .i64) w A0 l0.length l0) (hc0 : l0.length ≤ c0) (hle : l0.length ≤ 24) (hres : permSGo l0.length [] l0 = r) :
    Calls Tryz.prog 120 #[.slice A0 l0.length c0] w fun e w' => e = .returned (.bool r) ∧ Drawn0 w w' := by
  have HR0 := Aside0.mk hr0
  have HC0 := Aside0.mk hc0
  have HRES := Aside0.mk hres
  have HLE := Aside0.mk hle
  have hb24 : decide (24 < (l0.length : Int)) = false := decide_eq_false (by omega)
  clear hr0 hc0 hres hle
  go_enter Tryz.func120, Tryz.ntmps120
  go_wp2
  go_loopg [10] (l0.length + 1) (fun kq v10 w' => ∃ (i : Int), v10 = .int .i64 i ∧ Aside0 (0 ≤ i ∧ i ≤ l0.length ∧ (kq : Int) + i = l0.length + 1 ∧ permSGo l0.length (l0.take i.toNat) (l0.drop i.toNat) = r) ∧ Drawn0 w w')
  case atStart => exact ⟨0, rfl, ⟨by omega, by omega, by simp, by simpa using HRES.out⟩, by repeat (first | exact Drawn0.refl _ | apply Drawn0.step)⟩
  case round =>
    obtain ⟨i, rfl, HI, ⟨m1, rfl⟩⟩ := hrel
    obtain ⟨hi0, hi1, hik, hgo⟩ := HI.out
    clear HI
    have hle := HLE.out
    obtain ⟨k1, rfl⟩ : ∃ m, gk = m + 1 := ⟨gk - 1, by omega⟩
    have HGO := Aside0.mk hgo
    have HK := Aside0.mk hik
    clear hgo hik
    by_cases hlt : i < (l0.length : Int)
    · have c1 : decide (i < (l0.length : Int)) = true := decide_eq_true hlt
      have c1' : decide (i ≤ (l0.length : Int)) = true := decide_eq_true hi1
      have p0 : decide (0 ≤ i) = true := decide_eq_true hi0
      have HW := Aside0.mk (show wrap64 (i + 1) = i + 1 from by unfold wrap64; omega)
      have HW2 := Aside0.mk (show wrap64 ((l0.length : Int) - 1) = (l0.length : Int) - 1 from by unfold wrap64; omega)
      have hlen : (l0.take i.toNat).length = i.toNat := by simp; omega
      obtain ⟨ad, ead, hx⟩ := Kd.at_int HR0.out i hi0 hlt
      cases ead
      have hdrop : l0.drop i.toNat = rd l0 i :: l0.drop (i + 1).toNat := by
        have h1 : i.toNat < l0.length := by omega
        rw [show (i + 1).toNat = i.toNat + 1 by omega, List.drop_eq_getElem_cons h1]
        simp [rd, List.getD, h1]
      have htake : l0.take (i + 1).toNat = l0.take i.toNat ++ [rd l0 i] := by
        have h1 : i.toNat < l0.length := by omega
        rw [show (i + 1).toNat = i.toNat + 1 by omega, List.take_succ_eq_append_getElem h1]
        simp [rd, List.getD, h1]
      have HD := Aside0.mk hdrop
      have HT := Aside0.mk htake
      clear hdrop htake
      obtain ⟨i3, hi3, _, hsz3, _⟩ := info_parts (show (Tryz.prog.info? 3).map (fun i => (i.zero, i.size, i.bytes)) = some (some (.int .i64 0), 1, 8) by kernel_rfl)
      obtain ⟨hcut, hA, hC⟩ := print_take_of (P := Tryz.prog) (Value.int .i64) 0 23 3 .i64 Tryz.underlying23 hi3 hsz3 (some ad) c0 l0 i hi0 hi1 HC0.out
      rw [hlen] at hcut hC
      have HR1 := Aside0.mk (Kd.C_of_reads (h1 := fun _ => rfl) (hA _ (Kd.reads_of_C HR0.out)))
      have HC1 := Aside0.mk hC
      have HL := Aside0.mk hlen
      clear hA hC hi3 hsz3 hlen
      generalize hX : rd l0 i = x at *
      clear hX
      replace hi0 := eq_true hi0
      replace hi1 := eq_true hi1
      replace hlt := eq_true hlt
      clear hle
      have HIN := Aside0.mk (hand_in01 x 0 (wrap64 ((l0.length : Int) - 1)))
      by_cases h1 : 0 ≤ x ∧ x ≤ (l0.length : Int) - 1
      · rw [HW2.out, decide_eq_true h1, ← HW2.out] at HIN
        by_cases h2 : x ∈ l0.take i.toNat
        · have hr : r = false := by
            have := HGO.out
            rw [HD.out] at this
            simp only [permSGo] at this
            rw [if_pos h1, if_pos h2] at this
            exact this.symm
          subst hr
          obtain ⟨kh, hkh⟩ := hand_has (l0.take i.toNat) (by have := HL.out; have := HLE.out; simp; omega) x
          rw [decide_eq_true h2] at hkh
          have HH : ∀ W : World, Drawn0 w W → Calls Tryz.prog 145 #[.slice (some ad) i.toNat c0, .int .i64 x] W fun e w' => e = .returned (.bool true) ∧ Drawn0 W w' := by
            intro W hW
            obtain ⟨n, rfl⟩ := hW.out
            have := spec_l02Has.calls kh _ _ (l0.take i.toNat) x true (w.drewN n) (Kd.C_drewN HR1.out n) (by rw [HL.out]; exact HC1.out) hkh
            rw [HL.out] at this
            exact this
          have HHA := Aside0.mk HH
          clear h1 h2 HH hkh
          go_wp2_with (first
            | (go_at_call 68; refine (spec_l01In.calls x 0 (wrap64 ((l0.length : Int) - 1)) true _ HIN.out).mono ?_; rintro e w' ⟨rfl, ⟨nd, rfl⟩⟩)
            | (go_at_call 145; refine (HHA.out _ (by repeat (first | exact Drawn0.refl _ | apply Drawn0.step))).mono ?_; rintro e w' ⟨rfl, ⟨nd, rfl⟩⟩))
          go_ret
          exact ⟨rfl, by repeat (first | exact Drawn0.refl _ | apply Drawn0.step)⟩
        · have hg2 : permSGo l0.length (l0.take (i + 1).toNat) (l0.drop (i + 1).toNat) = r := by
            have := HGO.out
            rw [HD.out] at this
            simp only [permSGo] at this
            rw [if_pos h1, if_neg h2] at this
            rw [HT.out]
            exact this
          have HG2 := Aside0.mk hg2
          clear hg2
          obtain ⟨kh, hkh⟩ := hand_has (l0.take i.toNat) (by have := HL.out; have := HLE.out; simp; omega) x
          rw [decide_eq_false h2] at hkh
          have HH : ∀ W : World, Drawn0 w W → Calls Tryz.prog 145 #[.slice (some ad) i.toNat c0, .int .i64 x] W fun e w' => e = .returned (.bool false) ∧ Drawn0 W w' := by
            intro W hW
            obtain ⟨n, rfl⟩ := hW.out
            have := spec_l02Has.calls kh _ _ (l0.take i.toNat) x false (w.drewN n) (Kd.C_drewN HR1.out n) (by rw [HL.out]; exact HC1.out) hkh
            rw [HL.out] at this
            exact this
          have HHA := Aside0.mk HH
          clear h1 h2 HH hkh
          go_wp2_with (first
            | (go_at_call 68; refine (spec_l01In.calls x 0 (wrap64 ((l0.length : Int) - 1)) true _ HIN.out).mono ?_; rintro e w' ⟨rfl, ⟨nd, rfl⟩⟩)
            | (go_at_call 145; refine (HHA.out _ (by repeat (first | exact Drawn0.refl _ | apply Drawn0.step))).mono ?_; rintro e w' ⟨rfl, ⟨nd, rfl⟩⟩))
          go_roundg k1
          case measure => omega
          case rel => exact ⟨i + 1, by rw [HW.out], ⟨by simp at hi0; omega, by simp at hlt; omega, by have := HK.out; simp at this ⊢; omega, HG2.out⟩, by repeat (first | exact Drawn0.refl _ | apply Drawn0.step)⟩
      · rw [HW2.out, decide_eq_false h1, ← HW2.out] at HIN
        have hr : r = false := by
          have := HGO.out
          rw [HD.out] at this
          simp only [permSGo] at this
          rw [if_neg h1] at this
          exact this.symm
        subst hr
        clear h1
        go_wp2_with (go_at_call 68; refine (spec_l01In.calls x 0 (wrap64 ((l0.length : Int) - 1)) false _ HIN.out).mono ?_; rintro e w' ⟨rfl, ⟨nd, rfl⟩⟩)
        go_ret
        exact ⟨rfl, by repeat (first | exact Drawn0.refl _ | apply Drawn0.step)⟩
    · have hie : i = l0.length := by omega
      have hr : r = true := by
        have := HGO.out
        rw [show l0.drop i.toNat = [] from by rw [hie]; simp] at this
        simp only [permSGo] at this
        exact this.symm
      subst hr
      have c1 : decide (i < (l0.length : Int)) = false := decide_eq_false hlt
      clear hlt hie
      go_wp2
      go_ret
      exact ⟨rfl, by repeat (first | exact Drawn0.refl _ | apply Drawn0.step)⟩
set_option maxHeartbeats 8000000 in
set_option maxRecDepth 100000 in
theorem spec_PermOk.calls (A0 : Option Addr) (c0 : Nat) (l0 : List Int) (r : Bool) (w : World) (hr0 : Kd.C (Kd.int .i64) w A0 l0.length l0) (hc0 : l0.length ≤ c0) (h : spec_PermOk.f l0 = some r) :
    Calls Tryz.prog 120 #[.slice A0 l0.length c0] w fun e w' => e = .returned (.bool r) ∧ Drawn0 w w' := by
  unfold spec_PermOk.f permSB at h
  by_cases hle : l0.length ≤ 24
  · rw [if_pos hle] at h
    exact spec_PermOk.calls_le A0 c0 l0 r w hr0 hc0 hle (Option.some.inj h)
  · rw [if_neg hle] at h
    obtain rfl := Option.some.inj h
    have hb24 : decide (24 < (l0.length : Int)) = true := decide_eq_true (by omega)
    clear hle
    go_enter Tryz.func120, Tryz.ntmps120
    go_wp2
    go_ret
    exact ⟨rfl, by repeat (first | exact Drawn0.refl _ | apply Drawn0.step)⟩

/-! ### spec_l02Reach: function 121 -/
mutual
def spec_l02Reach.l0 : Nat → List Int → List Int → List Int → Int → Option (List Int)
 | 0, _, _, _, _ => none
 | k + 1, x0, x1, x7, x8 => if x8 < (x7.length : Int) then (if 0 ≤ x8 then (if 0 ≤ (rd x7 x8) then (if (rd x7 x8) < (x0.length : Int) then (if (rd x7 x8) < (x1.length : Int) then ((some (([rd x0 (rd x7 x8), rd x1 (rd x7 x8)] : List Int) : List Int)).bind fun y184 => (spec_l02Reach.l1 k x0 x1 x7 x8 y184 (y184.length : Int) 0)) else (none)) else (none)) else (none)) else (none)) else (some x7)
def spec_l02Reach.l1 : Nat → List Int → List Int → List Int → Int → List Int → Int → Int → Option (List Int)
 | 0, _, _, _, _, _, _, _ => none
 | k + 1, x0, x1, x7, x8, x33, x34, x35 => if x35 < x34 then (if 0 ≤ x35 then (if x35 < (x33.length : Int) then ((spec_l02Has.f k x7 (rd x33 x35)).bind fun t188 => (if t188 = true then (spec_l02Reach.l1 k x0 x1 x7 x8 x33 x34 (wrap64 (x35 + 1))) else (if x7.length < 17592186044416 then (spec_l02Reach.l1 k x0 x1 (x7 ++ [rd x33 x35]) x8 x33 x34 (wrap64 (x35 + 1))) else (none)))) else (none)) else (none)) else (spec_l02Reach.l0 k x0 x1 x7 (wrap64 (x8 + 1)))
end
def spec_l02Reach.f (k : Nat) (l0 : List Int) (l1 : List Int) (a2 : Int) : Option (List Int) := spec_l02Reach.l0 k l0 l1 (([a2] : List Int)) 0
def spec_l02Reach.T5 : Bool × List (List Nat × List Nat) := (true, [([], []), ([], []), ([], []), ([1, 2], [1, 2]), ([3], [3]), ([0, 4], [0, 4]), ([5], [5]), ([], []), ([], []), ([], []), ([8, 9], [8, 9]), ([10], [10]), ([7, 11], [7, 11]), ([12], [12]), ([6, 13], [6, 13]), ([14], [14]), ([], [])])
def spec_l02Reach.B5 : List Nat := [0, 0, 0, 6, 14, 31, 63, 0, 0, 0, 768, 1792, 3968, 8064, 16383, 32767, 0]
theorem spec_l02Reach.tab5 : rtab .any (opsOf Tryz.f121 5) = spec_l02Reach.T5 := by kernel_rfl
theorem spec_l02Reach.bits5 : waitsOk spec_l02Reach.T5.2 spec_l02Reach.B5 = true := by kernel_rfl
set_option maxHeartbeats 8000000 in
set_option maxRecDepth 100000 in
theorem spec_l02Reach.calls (k : Nat) (A0 : Option Addr) (c0 : Nat) (l0 : List Int) (A1 : Option Addr) (c1 : Nat) (l1 : List Int) (a2 : Int) (r : List Int) (w : World) (hr0 : Kd.C (Kd.int .i64) w A0 l0.length l0) (hc0 : l0.length ≤ c0) (hr1 : Kd.C (Kd.int .i64) w A1 l1.length l1) (hc1 : l1.length ≤ c1) (h : spec_l02Reach.f k l0 l1 a2 = some r) :
  Calls Tryz.prog 121 #[.slice A0 l0.length c0, .slice A1 l1.length c1, .int .i64 a2] w fun e w' => ∃ v0_ : Value, e = .returned (v0_) ∧ Kd.R (Kd.int .i64) 3 w' w.heap.size (fun _ => True) v0_ r ∧ Below w.heap.size w w' := by
 have HR0 := Aside0.mk hr0
 have HC0 := Aside0.mk hc0
 clear hr0 hc0
 have HR1 := Aside0.mk hr1
 have HC1 := Aside0.mk hc1
 clear hr1 hc1
 have HB := Aside0.mk (Below.refl w.heap.size w)
 have H : (spec_l02Reach.l0 k l0 l1 (([a2] : List Int)) 0) = some r := h
 clear h
 obtain ⟨y177, hy177⟩ : ∃ y_ : List Int, y_ = (([a2] : List Int)) := ⟨_, rfl⟩
 replace H : (spec_l02Reach.l0 k l0 l1 y177 0) = some r := by first | (rw [hy177]; with_reducible exact H) | (have H2_ := (Option.bind_some _ _).symm.trans H; rw [hy177]; with_reducible exact H2_) | (have H2_ := (Option.bind_some _ _).symm.trans H; with_reducible exact H2_) | with_reducible exact H | (rw [hy177]; exact H) | exact H
 have Ny177 := Aside0.mk hy177
 clear hy177
 have H' := Aside0.mk H
 clear H
 go_enter Tryz.func121, Tryz.ntmps121
 go_wp2_with (first | ((with_reducible refine gate_dst (N := 12) rfl ?_); refine Kd.R_lit (Kd.int .i64) _ 3 ?hg (N := 12) ?hd (xs := ([a2] : List Int)) (inner := [.int .i64 a2]) (ok := fun _ => True) (okp := fun _ => True) ?hr ?hp (fun _ hk => hk) trivial (Below.refl _ _) (Nat.le_refl _) (by simp) ?_; (case hd => rfl); (case hg => rfl); (case hr => first | (go_simp; done) | (go_simp; rfl)); (case hp => exact (Reps.one (show Kd.M (Kd.int .i64) _ _ _ a2 [.int .i64 a2] from rfl) (Reps.none _ _))); intro v178 w4 ho5 hb hg_ hnew_; clear hg_ hnew_; (first | rw [← Ny177.out] at ho5 | (simp only [Int.reduceToNat] at ho5; rw [← Ny177.out] at ho5)); have n0_ := Aside0.mk (Kd.R_lower ho5 (below_size (bX HB.out))); have n1_ := Aside0.mk (below_step (bX HB.out) hb); clear HB; have HO179 := n0_; have HB := n1_; clear n0_ n1_ hb ho5))
 go_loopg [7, 8] k (fun kq v7 v8 w' => ∃ (x7_1 : List Int) (x8_1 : Int), v8 = .int .i64 x8_1 ∧ Aside0 (spec_l02Reach.l0 kq l0 l1 x7_1 x8_1 = some r) ∧ Aside0 (kq ≤ k) ∧ Aside0 (Kd.R (Kd.int .i64) 3 w' w.heap.size (fun _ => True) v7 x7_1) ∧ Aside0 (Below w.heap.size w w'))
 case atStart => exact ⟨(y177), (0), vX, H', ⟨Nat.le_refl _⟩, ⟨rX HO179.out⟩, ⟨bX HB.out⟩⟩
 case round =>
 clear H'
 try clear c1
 try clear p2
 obtain ⟨x7_1, x8_1, rfl, HA, HK1, HO_7, HB⟩ := hrel
 cases gk with
 | zero => exact absurd HA.out (by simp [spec_l02Reach.l0])
 | succ k1 =>
 have H := HA.out
 clear HA
 simp only [spec_l02Reach.l0] at H
 by_cases c6 : x8_1 < (x7_1.length : Int)
 {
 rw [if_pos c6] at H
 have c6b0 : decide (x8_1 < (x7_1.length : Int)) = true := decide_eq_true c6
 clear c6
 by_cases c7 : 0 ≤ x8_1
 {
 rw [if_pos c7] at H
 have c7b0 : decide (0 ≤ x8_1) = true := decide_eq_true c7
 clear c7
 by_cases c8 : 0 ≤ (rd x7_1 x8_1)
 {
 rw [if_pos c8] at H
 have c8b0 : decide (0 ≤ (rd x7_1 x8_1)) = true := decide_eq_true c8
 clear c8
 by_cases c9 : (rd x7_1 x8_1) < (l0.length : Int)
 {
 rw [if_pos c9] at H
 have c9b0 : decide ((rd x7_1 x8_1) < (l0.length : Int)) = true := decide_eq_true c9
 clear c9
 by_cases c10 : (rd x7_1 x8_1) < (l1.length : Int)
 {
 rw [if_pos c10] at H
 have c10b0 : decide ((rd x7_1 x8_1) < (l1.length : Int)) = true := decide_eq_true c10
 clear c10
 obtain ⟨y184, hy184⟩ : ∃ y_ : List Int, y_ = (([rd l0 (rd x7_1 x8_1), rd l1 (rd x7_1 x8_1)] : List Int)) := ⟨_, rfl⟩
 replace H : (spec_l02Reach.l1 k1 l0 l1 x7_1 x8_1 y184 (y184.length : Int) 0) = some r := by first | (rw [hy184]; with_reducible exact H) | (have H2_ := (Option.bind_some _ _).symm.trans H; rw [hy184]; with_reducible exact H2_) | (have H2_ := (Option.bind_some _ _).symm.trans H; with_reducible exact H2_) | with_reducible exact H | (rw [hy184]; exact H) | exact H
 have Ny184 := Aside0.mk hy184
 clear hy184
 have H' := Aside0.mk H
 clear H
 obtain ⟨Ao11, co11, eo11⟩ := Kd.R_slice HO_7.out
 subst eo11
 try go_wp2
 have n0_ := Aside0.mk (Kd.R_drew HO_7.out)
 have n1_ := Aside0.mk (below_drew1 HB.out)
 clear HO_7 HB
 have HO_7 := n0_
 have HB := n1_
 clear n0_ n1_
 have p180 : 0 ≤ (x8_1 : Int) := dX
 have q180 : x8_1 < (x7_1.length : Int) := dX
 obtain ⟨ad180, e180, hx180_0⟩ := Kd.at_int (Kd.R_reads' HO_7.out).2.2 x8_1 p180 q180
 cases e180
 replace p180 := eq_true p180
 replace q180 := eq_true q180
 have p181 : 0 ≤ ((rd x7_1 x8_1) : Int) := dX
 have q181 : (rd x7_1 x8_1) < (l0.length : Int) := dX
 obtain ⟨ad181, e181, hx181_0⟩ := Kd.at_int HR0.out (rd x7_1 x8_1) p181 q181
 have hw181_0 := hx181_0
 cases e181
 replace hx181_0 := (HB.out.cell (World.block_lt_of_cell? w _ hx181_0)).trans hx181_0
 replace p181 := eq_true p181
 replace q181 := eq_true q181
 have p182 : 0 ≤ (x8_1 : Int) := dX
 have q182 : x8_1 < (x7_1.length : Int) := dX
 obtain ⟨ad182, e182, hx182_0⟩ := Kd.at_int (Kd.R_reads' HO_7.out).2.2 x8_1 p182 q182
 obtain rfl : ad180 = ad182 := (by injection e182)
 replace p182 := eq_true p182
 replace q182 := eq_true q182
 have p183 : 0 ≤ ((rd x7_1 x8_1) : Int) := dX
 have q183 : (rd x7_1 x8_1) < (l1.length : Int) := dX
 obtain ⟨ad183, e183, hx183_0⟩ := Kd.at_int HR1.out (rd x7_1 x8_1) p183 q183
 have hw183_0 := hx183_0
 cases e183
 replace hx183_0 := (HB.out.cell (World.block_lt_of_cell? w _ hx183_0)).trans hx183_0
 replace p183 := eq_true p183
 replace q183 := eq_true q183
 refine start_ (n := 17) (S := fun w' => w'.cell? (ad180.add (x8_1).toNat) = some (.int .i64 (rd x7_1 x8_1)) ∧ w'.cell? (ad181.add ((rd x7_1 x8_1)).toNat) = some (.int .i64 (rd l0 (rd x7_1 x8_1))) ∧ w'.cell? (ad180.add (x8_1).toNat) = some (.int .i64 (rd x7_1 x8_1)) ∧ w'.cell? (ad183.add ((rd x7_1 x8_1)).toNat) = some (.int .i64 (rd l1 (rd x7_1 x8_1)))) (ds := []) #[ff,ff,ff,ff,ff,ff,ff,ff,ff,ff,ff,ff,ff,ff,ff,ff,ff] (by kernel_rfl) rfl rfl ⟨hx180_0, ((HB.out.cell (World.block_lt_of_cell? w _ hw181_0)).trans hw181_0), hx182_0, ((HB.out.cell (World.block_lt_of_cell? w _ hw183_0)).trans hw183_0)⟩ (fun hHeld => ?_); refine with_tabW spec_l02Reach.tab5 spec_l02Reach.bits5 (fun HT_ HW_ => ?_)
 generalize wr.drew = w12 at HO_7 HB hx180_0 hx181_0 hx182_0 hx183_0 hHeld ⊢
 refine pX 0 19 (fl 17 1) rfl rfl HT_.out ?_
 refine pX 1 20 (fl 17 3) rfl rfl HT_.out ?_
 refine pX 2 21 (fl 17 7) rfl rfl HT_.out ?_
 refine pX 3 22 (fl 17 15) rfl rfl HT_.out ?_
 refine pX 7 26 (fl 17 143) rfl rfl HT_.out ?_
 refine pX 8 27 (fl 17 399) rfl rfl HT_.out ?_
 refine pX 9 28 (fl 17 911) rfl rfl HT_.out ?_
 refine pX 10 29 (fl 17 1935) rfl rfl HT_.out ?_
 refine pX 16 35 (fl 17 67471) rfl rfl HT_.out ?_
 refine tX4 4 23 (fl 17 67487) rfl rfl HT_.out HW_.out hHeld ?_
 refine pX 5 24 (fl 17 67519) rfl rfl HT_.out ?_
 refine tX4 6 25 (fl 17 67583) rfl rfl HT_.out HW_.out hHeld ?_
 refine tX4 11 30 (fl 17 69631) rfl rfl HT_.out HW_.out hHeld ?_
 refine pX 12 31 (fl 17 73727) rfl rfl HT_.out ?_
 refine tX4 13 32 (fl 17 81919) rfl rfl HT_.out HW_.out hHeld ?_
 refine one_ (i := 14) (N := some 33) #[tt,tt,tt,tt,tt,tt,tt,tt,tt,tt,tt,tt,tt,tt,tt,ff,tt] rfl rfl (one_of HT_.out (by kernel_rfl)) (by decide) (fun K hK => ?_)
 refine Kd.R_lit_step (Kd.int .i64) _ 3 ?hg (N := 33) ?hd (xs := ([rd l0 (rd x7_1 x8_1), rd l1 (rd x7_1 x8_1)] : List Int)) (inner := [.int .i64 (rd l0 (rd x7_1 x8_1)), .int .i64 (rd l1 (rd x7_1 x8_1))]) (ok := fun _ => True) (okp := fun _ => True) ?hr ?hp (fun _ hk => hk) trivial (Below.refl _ _) (Nat.le_refl _) (by simp) ?_; (case hd => rfl); (case hg => rfl); (case hr => first | (go_simp; done) | (go_simp; rfl)); (case hp => exact (Reps.one (show Kd.M (Kd.int .i64) _ _ _ (rd l0 (rd x7_1 x8_1)) [.int .i64 (rd l0 (rd x7_1 x8_1))] from rfl) (Reps.one (show Kd.M (Kd.int .i64) _ _ _ (rd l1 (rd x7_1 x8_1)) [.int .i64 (rd l1 (rd x7_1 x8_1))] from rfl) (Reps.none _ _))))
 intro v185 w13 ho14 hb hg_ hnew_
 have HS0_ := (hb.cell (World.block_lt_of_cell? _ _ (hHeld.1))).trans (hHeld.1)
 have HS2_ := (hb.cell (World.block_lt_of_cell? _ _ (hHeld.2.2.1))).trans (hHeld.2.2.1)
 clear hg_ hnew_
 (first | rw [← Ny184.out] at ho14 | (simp only [Int.reduceToNat] at ho14; rw [← Ny184.out] at ho14))
 have n0_ := Aside0.mk (Kd.R_elder' (rX HO_7.out) (Kd.R_base ho14) hb)
 have n1_ := Aside0.mk (Kd.R_lower (Kd.R_new' ho14 (Kd.R_lt (rX HO_7.out))) (below_size (bX HB.out)))
 have n2_ := Aside0.mk (below_step (bX HB.out) hb)
 clear HO_7 HB
 have HO_7 := n0_
 have HO186 := n1_
 have HB := n2_
 clear n0_ n1_ n2_ hb ho14
 obtain ⟨Ao15, co15, eo15⟩ := Kd.R_slice HO186.out
 (first | subst eo15 | (injection eo15 with f1_ f2_ f3_; have f4_ := f1_.symm; have f5_ := f3_.symm; clear f1_ f2_ f3_; subst f4_; subst f5_))
 refine hK.out _ _ ⟨HS0_, ((HB.out.cell (World.block_lt_of_cell? w _ hw181_0)).trans hw181_0), HS2_, ((HB.out.cell (World.block_lt_of_cell? w _ hw183_0)).trans hw183_0)⟩ (fun hHeld => ?_)
 clear hK K
 refine norm_ (a' := ?_) ?_ ?_
 rotate_left
 {
 show Act.put _ (some 33) _ = _
 simp only [Act.put, zA, zB, zC, i64_w, i32_w]
 rfl
 }
 refine pX 15 34 (fl 17 131071) rfl rfl HT_.out ?_
 refine done_ (done_of HT_.out (by kernel_rfl)) ?_
 try go_wp2
 go_loopg [7, 35] k1 (fun kq v7 v35 w' => ∃ (x7_2 : List Int) (x35_2 : Int), v35 = .int .i64 x35_2 ∧ Aside0 (spec_l02Reach.l1 kq l0 l1 x7_2 x8_1 y184 (y184.length : Int) x35_2 = some r) ∧ Aside0 (kq ≤ k1) ∧ Aside0 (Kd.R (Kd.int .i64) 3 w' w.heap.size (fun k_ => some k_ ≠ ((.slice Ao15 y184.length co15) : Value).ownBlock) v7 x7_2) ∧ Aside0 (Kd.R (Kd.int .i64) 3 w' w.heap.size (fun k_ => some k_ ≠ (v7 : Value).ownBlock) (.slice Ao15 y184.length co15) y184) ∧ Aside0 (Below w.heap.size w w'))
 case atStart => exact ⟨(x7_1), (0), vX, H', ⟨Nat.le_refl _⟩, ⟨rM HO_7.out (fun _ hk => hk.2)⟩, ⟨rM HO186.out (fun _ hk => hk.2)⟩, ⟨bX HB.out⟩⟩
 case round =>
 clear H'
 try clear c1
 try clear p1
 try clear q1
 try clear hx1
 try clear p2
 try clear c6
 try clear c6b0
 try clear c7
 try clear c7b0
 try clear c8
 try clear c8b0
 try clear c9
 try clear c9b0
 try clear c10
 try clear c10b0
 try clear c12
 try clear hx180_0
 try clear hx181_0
 try clear hx182_0
 try clear hx183_0
 try clear p180
 try clear p181
 try clear p182
 try clear p183
 try clear p2
 try clear q180
 try clear q181
 try clear q182
 try clear q183
 obtain ⟨x7_2, x35_2, rfl, HA, HK2, HO_7, HO_33, HB⟩ := hrel
 cases gk with
 | zero => exact absurd HA.out (by simp [spec_l02Reach.l1])
 | succ k2 =>
 have H := HA.out
 clear HA
 simp only [spec_l02Reach.l1] at H
 by_cases c16 : x35_2 < (y184.length : Int)
 {
 rw [if_pos c16] at H
 have c16b0 : decide (x35_2 < (y184.length : Int)) = true := decide_eq_true c16
 clear c16
 by_cases c17 : 0 ≤ x35_2
 {
 rw [if_pos c17] at H
 have c17b0 : decide (0 ≤ x35_2) = true := decide_eq_true c17
 clear c17
 by_cases c18 : x35_2 < (y184.length : Int)
 {
 rw [if_pos c18] at H
 have c18b0 : decide (x35_2 < (y184.length : Int)) = true := decide_eq_true c18
 clear c18
 replace H := Option.bind_eq_some_iff.mp H
 obtain ⟨t188, A190, H⟩ := H
 replace H : (if t188 = true then (spec_l02Reach.l1 k2 l0 l1 x7_2 x8_1 y184 (y184.length : Int) (wrap64 (x35_2 + 1))) else (if x7_2.length < 17592186044416 then (spec_l02Reach.l1 k2 l0 l1 (x7_2 ++ [rd y184 x35_2]) x8_1 y184 (y184.length : Int) (wrap64 (x35_2 + 1))) else (none))) = some r := H
 have A19 := Aside0.mk A190
 clear A190
 by_cases c20 : t188 = true
 {
 subst c20
 have H1 : (spec_l02Reach.l1 k2 l0 l1 x7_2 x8_1 y184 (y184.length : Int) (wrap64 (x35_2 + 1))) = some r := by rw [if_pos rfl] at H; exact H
 clear H
 have H := H1
 clear H1
 have H' := Aside0.mk H
 clear H
 have p187 : 0 ≤ (x35_2 : Int) := dX
 have q187 : x35_2 < (y184.length : Int) := dX
 obtain ⟨ad187, e187, hx187_0⟩ := Kd.at_int (Kd.R_reads' HO_33.out).2.2 x35_2 p187 q187
 cases e187
 replace p187 := eq_true p187
 replace q187 := eq_true q187
 obtain ⟨Ao21, co21, eo21⟩ := Kd.R_slice HO_7.out
 subst eo21
 go_wp2_with (first | ((with_reducible refine gate_callee (f := 145) rfl ?_); refine goesL_ (some 41) rfl rfl Tryz.func145 (by kernel_rfl) rfl #[.slice Ao21 x7_2.length co21, .int .i64 (rd y184 x35_2)] rfl aX ?_; (with_reducible refine (spec_l02Has.calls k2 _ _ x7_2 (rd y184 x35_2) true _ ?side1 ?side2 A19.out).mono ?_); (case side1 => exact cX (Kd.R_reads' HO_7.out).2.2); (case side2 => exact (Kd.R_reads' HO_7.out).2.1); rintro e w' ⟨rfl, ⟨nd, rfl⟩⟩; refine ⟨_, rfl, ?_⟩))
 go_roundg k2
 case measure => have := HK1.out; have := HK2.out; omega
 case rel => exact ⟨(x7_2), (wrap64 (x35_2 + 1)), vX, H', ⟨by have := HK1.out; have := HK2.out; omega⟩, ⟨rX HO_7.out⟩, ⟨rX HO_33.out⟩, ⟨bX HB.out⟩⟩
 }
 {
 replace c20 := Bool.eq_false_iff.mpr c20
 subst c20
 have H1 : (if x7_2.length < 17592186044416 then (spec_l02Reach.l1 k2 l0 l1 (x7_2 ++ [rd y184 x35_2]) x8_1 y184 (y184.length : Int) (wrap64 (x35_2 + 1))) else (none)) = some r := by rw [if_neg (show ¬ (false = true) by decide)] at H; exact H
 clear H
 have H := H1
 clear H1
 by_cases c22 : x7_2.length < 17592186044416
 {
 rw [if_pos c22] at H
 have LMc22 := Aside0.mk c22
 clear c22
 obtain ⟨y189, hy189⟩ : ∃ y_ : List Int, y_ = (x7_2 ++ [rd y184 x35_2]) := ⟨_, rfl⟩
 replace H : (spec_l02Reach.l1 k2 l0 l1 y189 x8_1 y184 (y184.length : Int) (wrap64 (x35_2 + 1))) = some r := by first | (rw [hy189]; with_reducible exact H) | (have H2_ := (Option.bind_some _ _).symm.trans H; rw [hy189]; with_reducible exact H2_) | (have H2_ := (Option.bind_some _ _).symm.trans H; with_reducible exact H2_) | with_reducible exact H | (rw [hy189]; exact H) | exact H
 have Ny189 := Aside0.mk hy189
 clear hy189
 have H' := Aside0.mk H
 clear H
 have p187 : 0 ≤ (x35_2 : Int) := dX
 have q187 : x35_2 < (y184.length : Int) := dX
 obtain ⟨ad187, e187, hx187_0⟩ := Kd.at_int (Kd.R_reads' HO_33.out).2.2 x35_2 p187 q187
 cases e187
 replace p187 := eq_true p187
 replace q187 := eq_true q187
 obtain ⟨Ao23, co23, eo23⟩ := Kd.R_slice HO_7.out
 subst eo23
 go_wp2_with (first | ((with_reducible refine gate_callee (f := 145) rfl ?_); refine goesL_ (some 41) rfl rfl Tryz.func145 (by kernel_rfl) rfl #[.slice Ao23 x7_2.length co23, .int .i64 (rd y184 x35_2)] rfl aX ?_; (with_reducible refine (spec_l02Has.calls k2 _ _ x7_2 (rd y184 x35_2) false _ ?side1 ?side2 A19.out).mono ?_); (case side1 => exact cX (Kd.R_reads' HO_7.out).2.2); (case side2 => exact (Kd.R_reads' HO_7.out).2.1); rintro e w' ⟨rfl, ⟨nd, rfl⟩⟩; refine ⟨_, rfl, ?_⟩) | ((with_reducible refine gate_builtin (b := .append) (xs := #[.tmp 43, .tmp 45]) rfl ?_); at_builtin; refine Kd.R_append (Kd.int .i64) (w0 := w) w.heap.size rfl (.tmp 43) (.tmp 45) 23 3 (.int .i64 0) 8 rfl Tryz.underlying23 info3 rfl (by decide) (by omega) (.slice Ao23 x7_2.length co23) x7_2 (rd y184 x35_2) [.int .i64 (rd y184 x35_2)] (fun k_ => some k_ ≠ (.slice (some ad187) y184.length co15 : Value).ownBlock) (fun _ => False) rfl rfl ?aP (fun _ hk => hk.elim) ?aF ?aO ?aB ?aS ?aL ?_; (case aP => exact rfl); (case aB => exact (bX HB.out)); (case aF => exact (fun k_ hk => Kd.fresh' (Kd.R_lt (rX HO_33.out)) k_ hk)); (case aO => exact (rX HO_7.out)); (case aS => exact (below_size (bX HB.out))); (case aL => have := LMc22.out; omega); intro v190 w24 ho hb hg hat; rw [← Ny189.out] at ho; have n0_ := Aside0.mk (Kd.R_after (ok := (fun _ => True)) (rM HO_33.out (fun _ hk => ⟨trivial, hk⟩)) hg hat); have n1_ := Aside0.mk (hb); have n2_ := Aside0.mk (ho); clear HO_33 HB HO_7; have HO_33 := n0_; have HB := n1_; have HO191 := n2_; clear n0_ n1_ n2_ ho hb hg hat))
 go_roundg k2
 case measure => have := HK1.out; have := HK2.out; omega
 case rel => exact ⟨(y189), (wrap64 (x35_2 + 1)), vX, H', ⟨by have := HK1.out; have := HK2.out; omega⟩, ⟨rX HO191.out⟩, ⟨rM HO_33.out (fun _ hk => hk.2)⟩, ⟨bX HB.out⟩⟩
 }
 {
 rw [if_neg c22] at H
 exact absurd H (by simp)
 }
 }
 }
 {
 rw [if_neg c18] at H
 exact absurd H (by simp)
 }
 }
 {
 rw [if_neg c17] at H
 exact absurd H (by simp)
 }
 }
 {
 rw [if_neg c16] at H
 have c16b0 : decide (x35_2 < (y184.length : Int)) = false := decide_eq_false c16
 clear c16
 have H' := Aside0.mk H
 clear H
 go_wp2
 go_roundg k2
 case measure => have := HK1.out; have := HK2.out; omega
 case rel => exact ⟨(x7_2), (wrap64 (x8_1 + 1)), vX, H', ⟨by have := HK1.out; have := HK2.out; omega⟩, ⟨rM HO_7.out (fun _ hk => trivial)⟩, ⟨bX HB.out⟩⟩
 }
 }
 {
 rw [if_neg c10] at H
 exact absurd H (by simp)
 }
 }
 {
 rw [if_neg c9] at H
 exact absurd H (by simp)
 }
 }
 {
 rw [if_neg c8] at H
 exact absurd H (by simp)
 }
 }
 {
 rw [if_neg c7] at H
 exact absurd H (by simp)
 }
 }
 {
 rw [if_neg c6] at H
 have c6b0 : decide (x8_1 < (x7_1.length : Int)) = false := decide_eq_false c6
 clear c6
 obtain rfl := Option.some.inj H
 obtain ⟨Ao25, co25, eo25⟩ := Kd.R_slice HO_7.out
 subst eo25
 go_wp2
 go_ret
 exact ⟨_, eX, by (with_reducible repeat (first|apply rA|apply rN|apply rD)); exact HO_7.out, bX HB.out⟩
 }

/-! ### spec_IsTransitive: function 87 -/
def spec_IsTransitive.f (k : Nat) (l0 : List Int) (l1 : List Int) : Option (Bool) := (spec_PermOk.f l0).bind fun t192 => (if t192 = true then ((spec_PermOk.f l1).bind fun t193 => (if t193 = true then (if (l0.length : Int) = (l1.length : Int) then (if (l0.length : Int) > 0 then ((spec_l02Reach.f k l0 l1 0).bind fun t194 => (some ((t194.length : Int) == (l0.length : Int)))) else (some false)) else (some false)) else (some false))) else (some false))
set_option maxHeartbeats 8000000 in
set_option maxRecDepth 100000 in
theorem spec_IsTransitive.calls (k : Nat) (A0 : Option Addr) (c0 : Nat) (l0 : List Int) (A1 : Option Addr) (c1 : Nat) (l1 : List Int) (r : Bool) (w : World) (hr0 : Kd.C (Kd.int .i64) w A0 l0.length l0) (hc0 : l0.length ≤ c0) (hr1 : Kd.C (Kd.int .i64) w A1 l1.length l1) (hc1 : l1.length ≤ c1) (h : spec_IsTransitive.f k l0 l1 = some r) :
  Calls Tryz.prog 87 #[.slice A0 l0.length c0, .slice A1 l1.length c1] w fun e w' => e = .returned (.bool r) ∧ Below w.heap.size w w' := by
 have HR0 := Aside0.mk hr0
 have HC0 := Aside0.mk hc0
 clear hr0 hc0
 have HR1 := Aside0.mk hr1
 have HC1 := Aside0.mk hc1
 clear hr1 hc1
 have HB := Aside0.mk (Below.refl w.heap.size w)
 have H : ((spec_PermOk.f l0).bind fun t192 => (if t192 = true then ((spec_PermOk.f l1).bind fun t193 => (if t193 = true then (if (l0.length : Int) = (l1.length : Int) then (if (l0.length : Int) > 0 then ((spec_l02Reach.f k l0 l1 0).bind fun t194 => (some ((t194.length : Int) == (l0.length : Int)))) else (some false)) else (some false)) else (some false))) else (some false))) = some r := h
 clear h
 replace H := Option.bind_eq_some_iff.mp H
 obtain ⟨t192, A30, H⟩ := H
 replace H : (if t192 = true then ((spec_PermOk.f l1).bind fun t193 => (if t193 = true then (if (l0.length : Int) = (l1.length : Int) then (if (l0.length : Int) > 0 then ((spec_l02Reach.f k l0 l1 0).bind fun t194 => (some ((t194.length : Int) == (l0.length : Int)))) else (some false)) else (some false)) else (some false))) else (some false)) = some r := H
 have A3 := Aside0.mk A30
 clear A30
 by_cases c4 : t192 = true
 {
 subst c4
 have H1 : ((spec_PermOk.f l1).bind fun t193 => (if t193 = true then (if (l0.length : Int) = (l1.length : Int) then (if (l0.length : Int) > 0 then ((spec_l02Reach.f k l0 l1 0).bind fun t194 => (some ((t194.length : Int) == (l0.length : Int)))) else (some false)) else (some false)) else (some false))) = some r := by rw [if_pos rfl] at H; exact H
 clear H
 have H := H1
 clear H1
 replace H := Option.bind_eq_some_iff.mp H
 obtain ⟨t193, A50, H⟩ := H
 replace H : (if t193 = true then (if (l0.length : Int) = (l1.length : Int) then (if (l0.length : Int) > 0 then ((spec_l02Reach.f k l0 l1 0).bind fun t194 => (some ((t194.length : Int) == (l0.length : Int)))) else (some false)) else (some false)) else (some false)) = some r := H
 have A5 := Aside0.mk A50
 clear A50
 by_cases c6 : t193 = true
 {
 subst c6
 have H1 : (if (l0.length : Int) = (l1.length : Int) then (if (l0.length : Int) > 0 then ((spec_l02Reach.f k l0 l1 0).bind fun t194 => (some ((t194.length : Int) == (l0.length : Int)))) else (some false)) else (some false)) = some r := by rw [if_pos rfl] at H; exact H
 clear H
 have H := H1
 clear H1
 by_cases c7 : (l0.length : Int) = (l1.length : Int)
 {
 rw [if_pos c7] at H
 have c7b0 : ((l0.length : Int) == (l1.length : Int)) = true := beq_iff_eq.mpr c7
 have c7b1 : ((l0.length : Int) != (l1.length : Int)) = false := bne_eq_false_iff_eq.mpr c7
 have c7b2 : (l0.length == l1.length) = true := by first | simpa using c7 | (simp at c7 ⊢; omega)
 clear c7
 by_cases c8 : (l0.length : Int) > 0
 {
 rw [if_pos c8] at H
 have c8b0 : decide (0 < (l0.length : Int)) = true := decide_eq_true c8
 have c8b1 : decide (0 < l0.length) = true := decide_eq_true (by omega)
 clear c8
 replace H := Option.bind_eq_some_iff.mp H
 obtain ⟨t194, A90, H⟩ := H
 replace H : (some ((t194.length : Int) == (l0.length : Int))) = some r := H
 have A9 := Aside0.mk A90
 clear A90
 obtain rfl := Option.some.inj H
 go_enter Tryz.func87, Tryz.ntmps87
 go_wp2_with (first | ((with_reducible refine gate_callee (f := 120) rfl ?_); refine goesL_ (some 6) rfl rfl Tryz.func120 (by kernel_rfl) rfl #[.slice A0 l0.length c0] rfl aX ?_; (with_reducible refine (spec_PermOk.calls _ _ l0 true _ ?side1 ?side2 A3.out).mono ?_); (case side1 => exact cX HR0.out); (case side2 => exact HC0.out); rintro e w' ⟨rfl, ⟨nd, rfl⟩⟩; refine ⟨_, rfl, ?_⟩) | (go_at_call 120; (with_reducible refine (spec_PermOk.calls _ _ l1 true _ ?side1 ?side2 A5.out).mono ?_); (case side1 => exact cX HR1.out); (case side2 => exact HC1.out); rintro e w' ⟨rfl, ⟨nd, rfl⟩⟩) | (go_at_call 121; (with_reducible refine (spec_l02Reach.calls k _ _ l0 _ _ l1 0 t194 _ ?side1 ?side2 ?side3 ?side4 A9.out).mono ?_); (case side1 => exact cX HR0.out); (case side2 => exact HC0.out); (case side3 => exact cX HR1.out); (case side4 => exact HC1.out); rintro e w10 ⟨v195, rfl, ho0, hb⟩; have n0_ := Aside0.mk (Kd.R_lower ho0 (below_size (bX HB.out))); have n1_ := Aside0.mk (below_step (bX HB.out) hb); clear HB; have HO196 := n0_; have HB := n1_; clear n0_ n1_; (try clear hb); (try clear hb2); (try clear hk); (try clear hi); (try clear ho0); obtain ⟨Ao11, co11, eo11⟩ := Kd.R_slice HO196.out; subst eo11))
 go_ret
 exact ⟨eX, bX HB.out⟩
 }
 {
 rw [if_neg c8] at H
 have c8b0 : decide (0 < (l0.length : Int)) = false := decide_eq_false c8
 have c8b1 : decide (0 < l0.length) = false := decide_eq_false (by omega)
 clear c8
 obtain rfl := Option.some.inj H
 go_enter Tryz.func87, Tryz.ntmps87
 go_wp2_with (first | ((with_reducible refine gate_callee (f := 120) rfl ?_); refine goesL_ (some 6) rfl rfl Tryz.func120 (by kernel_rfl) rfl #[.slice A0 l0.length c0] rfl aX ?_; (with_reducible refine (spec_PermOk.calls _ _ l0 true _ ?side1 ?side2 A3.out).mono ?_); (case side1 => exact cX HR0.out); (case side2 => exact HC0.out); rintro e w' ⟨rfl, ⟨nd, rfl⟩⟩; refine ⟨_, rfl, ?_⟩) | (go_at_call 120; (with_reducible refine (spec_PermOk.calls _ _ l1 true _ ?side1 ?side2 A5.out).mono ?_); (case side1 => exact cX HR1.out); (case side2 => exact HC1.out); rintro e w' ⟨rfl, ⟨nd, rfl⟩⟩))
 go_ret
 exact ⟨eX, bX HB.out⟩
 }
 }
 {
 rw [if_neg c7] at H
 have c7b0 : ((l0.length : Int) == (l1.length : Int)) = false := beq_eq_false_iff_ne.mpr c7
 have c7b1 : ((l0.length : Int) != (l1.length : Int)) = true := bne_iff_ne.mpr c7
 have c7b2 : (l0.length == l1.length) = false := by first | simpa using c7 | (simp at c7 ⊢; omega)
 obtain rfl := Option.some.inj H
 go_enter Tryz.func87, Tryz.ntmps87
 go_wp2_with (first | ((with_reducible refine gate_callee (f := 120) rfl ?_); refine goesL_ (some 6) rfl rfl Tryz.func120 (by kernel_rfl) rfl #[.slice A0 l0.length c0] rfl aX ?_; (with_reducible refine (spec_PermOk.calls _ _ l0 true _ ?side1 ?side2 A3.out).mono ?_); (case side1 => exact cX HR0.out); (case side2 => exact HC0.out); rintro e w' ⟨rfl, ⟨nd, rfl⟩⟩; refine ⟨_, rfl, ?_⟩) | (go_at_call 120; (with_reducible refine (spec_PermOk.calls _ _ l1 true _ ?side1 ?side2 A5.out).mono ?_); (case side1 => exact cX HR1.out); (case side2 => exact HC1.out); rintro e w' ⟨rfl, ⟨nd, rfl⟩⟩))
 go_ret
 exact ⟨eX, bX HB.out⟩
 }
 }
 {
 replace c6 := Bool.eq_false_iff.mpr c6
 subst c6
 have H1 : (some false) = some r := by rw [if_neg (show ¬ (false = true) by decide)] at H; exact H
 clear H
 have H := H1
 clear H1
 obtain rfl := Option.some.inj H
 go_enter Tryz.func87, Tryz.ntmps87
 go_wp2_with (first | ((with_reducible refine gate_callee (f := 120) rfl ?_); refine goesL_ (some 6) rfl rfl Tryz.func120 (by kernel_rfl) rfl #[.slice A0 l0.length c0] rfl aX ?_; (with_reducible refine (spec_PermOk.calls _ _ l0 true _ ?side1 ?side2 A3.out).mono ?_); (case side1 => exact cX HR0.out); (case side2 => exact HC0.out); rintro e w' ⟨rfl, ⟨nd, rfl⟩⟩; refine ⟨_, rfl, ?_⟩) | (go_at_call 120; (with_reducible refine (spec_PermOk.calls _ _ l1 false _ ?side1 ?side2 A5.out).mono ?_); (case side1 => exact cX HR1.out); (case side2 => exact HC1.out); rintro e w' ⟨rfl, ⟨nd, rfl⟩⟩))
 go_ret
 exact ⟨eX, bX HB.out⟩
 }
 }
 {
 replace c4 := Bool.eq_false_iff.mpr c4
 subst c4
 have H1 : (some false) = some r := by rw [if_neg (show ¬ (false = true) by decide)] at H; exact H
 clear H
 have H := H1
 clear H1
 obtain rfl := Option.some.inj H
 go_enter Tryz.func87, Tryz.ntmps87
 go_wp2_with (first | ((with_reducible refine gate_callee (f := 120) rfl ?_); refine goesL_ (some 6) rfl rfl Tryz.func120 (by kernel_rfl) rfl #[.slice A0 l0.length c0] rfl aX ?_; (with_reducible refine (spec_PermOk.calls _ _ l0 false _ ?side1 ?side2 A3.out).mono ?_); (case side1 => exact cX HR0.out); (case side2 => exact HC0.out); rintro e w' ⟨rfl, ⟨nd, rfl⟩⟩; refine ⟨_, rfl, ?_⟩))
 go_ret
 exact ⟨eX, bX HB.out⟩
 }

/-! ### spec_SurfaceOk: function 50 -/
def spec_SurfaceOk.f (k : Nat) (l0_0 : List Int) (l0_1 : List Int) : Option (Bool) := (spec_IsTransitive.f k l0_0 l0_1).bind fun t198 => (some t198)
set_option maxHeartbeats 8000000 in
set_option maxRecDepth 100000 in
theorem spec_SurfaceOk.calls (k : Nat) (A0_0 : Option Addr) (c0_0 : Nat) (l0_0 : List Int) (A0_1 : Option Addr) (c0_1 : Nat) (l0_1 : List Int) (r : Bool) (w : World) (hr0_0 : Kd.C (Kd.int .i64) w A0_0 l0_0.length l0_0) (hc0_0 : l0_0.length ≤ c0_0) (hr0_1 : Kd.C (Kd.int .i64) w A0_1 l0_1.length l0_1) (hc0_1 : l0_1.length ≤ c0_1) (h : spec_SurfaceOk.f k l0_0 l0_1 = some r) :
  Calls Tryz.prog 50 #[.agg #[.slice A0_0 l0_0.length c0_0, .slice A0_1 l0_1.length c0_1]] w fun e w' => e = .returned (.bool r) ∧ Below w.heap.size w w' := by
 have hu25 := Tryz.underlying25
 have HR0_0 := Aside0.mk hr0_0
 have HC0_0 := Aside0.mk hc0_0
 clear hr0_0 hc0_0
 have HR0_1 := Aside0.mk hr0_1
 have HC0_1 := Aside0.mk hc0_1
 clear hr0_1 hc0_1
 have HB := Aside0.mk (Below.refl w.heap.size w)
 have H : ((spec_IsTransitive.f k l0_0 l0_1).bind fun t198 => (some t198)) = some r := h
 clear h
 replace H := Option.bind_eq_some_iff.mp H
 obtain ⟨t198, A20, H⟩ := H
 replace H : (some t198) = some r := H
 have A2 := Aside0.mk A20
 clear A20
 obtain rfl := Option.some.inj H
 go_enter Tryz.func50, Tryz.ntmps50
 go_wp2_with (first | ((with_reducible refine gate_dst (N := 1) rfl ?_); refine box_event ?hg (N := 1) ?hd (cs := #[.slice A0_0 l0_0.length c0_0, .slice A0_1 l0_1.length c0_1]) (t := 25) ?hr ?_; (case hd => rfl); (case hg => rfl); (case hr => first | (go_simp; done) | (go_simp; rfl)); intro gb197 hg w3 hbox hb; have n0_ := Aside0.mk (below_step (bX HB.out) hb); have n1_ := Aside0.mk (hbox); have n2_ := Aside0.mk ((szX (below_size (bX HB.out)) hg : w.heap.size ≤ gb197)); have n3_ := Aside0.mk ((szX (below_size (bX HB.out)) hg : w.heap.size ≤ gb197)); clear HB; have HB := n0_; have BK197 := n1_; have GW197 := n2_; have GE197 := n3_; clear n0_ n1_ n2_ n3_ hb hbox hg; have hcz4_0 := cz20 BK197.out; have hcz4_1 := cz21 BK197.out; have hfz4_0 := blk_frozen BK197.out 0; have hfz4_1 := blk_frozen BK197.out 1) | ((with_reducible refine gate_callee (f := 87) rfl ?_); refine goesL_ (some 7) rfl rfl Tryz.func87 (by kernel_rfl) rfl #[.slice A0_0 l0_0.length c0_0, .slice A0_1 l0_1.length c0_1] rfl aX ?_; (with_reducible refine (spec_IsTransitive.calls k _ _ l0_0 _ _ l0_1 t198 _ ?side1 ?side2 ?side3 ?side4 A2.out).mono ?_); (case side1 => exact cX (Kd.C_below HR0_0.out HB.out)); (case side2 => exact HC0_0.out); (case side3 => exact cX (Kd.C_below HR0_1.out HB.out)); (case side4 => exact HC0_1.out); rintro e w5 ⟨rfl, hb⟩; refine ⟨_, rfl, ?_⟩; have n0_ := Aside0.mk (bbX BK197.out hb); have n1_ := Aside0.mk (below_step (bX1 HB.out GE197.out) hb); clear BK197 HB; have BK197 := n0_; have HB := n1_; clear n0_ n1_; (try clear hb); (try clear hb2); (try clear hk); (try clear hi)))
 go_ret
 exact ⟨eX, bX1 HB.out GE197.out⟩

/-! ### spec_l02Draw: function 72 -/
def spec_l02Draw.l0 : Nat → Int → List Int → Int → List Int → Int → Int → Option (List Int × Int × Int)
 | 0, _, _, _, _, _, _ => none
 | k + 1, x1, x5, x6, x1000, x1001, x1002 => if x6 < x1 then ((spec_l01Below.f x1000 x1001 x1002 (wrap64 (x6 + 1))).bind fun bt202 => (if x5.length < 17592186044416 then ((some (x5 ++ [x6] : List Int)).bind fun y205 => (if 0 ≤ bt202.1 then (if bt202.1 < (y205.length : Int) then (if 0 ≤ x6 then (if x6 < (y205.length : Int) then (spec_l02Draw.l0 k x1 ((y205.set (x6 : Int).toNat (rd y205 bt202.1)).set (bt202.1 : Int).toNat x6) (wrap64 (x6 + 1)) x1000 bt202.2.1 bt202.2.2) else (none)) else (none)) else (none)) else (none))) else (none))) else (some (x5, x1001, x1002))
def spec_l02Draw.f (k : Nat) (s0_0 : List Int) (s0_1 : Int) (s0_2 : Int) (a1 : Int) : Option (List Int × Int × Int) := spec_l02Draw.l0 k a1 (([] : List Int)) 0 s0_0 s0_1 s0_2
set_option maxHeartbeats 8000000 in
set_option maxRecDepth 100000 in
theorem spec_l02Draw.calls (k : Nat) (g : Nat) (s0_0 : List Int) (s0_1 : Int) (s0_2 : Int) (a1 : Int) (r1 : List Int) (r2 : Int) (r3 : Int) (w0 w : World) (hI : IsS76 w0 w g s0_0 s0_1 s0_2) (hB : Below w0.heap.size w0 w) (h : spec_l02Draw.f k s0_0 s0_1 s0_2 a1 = some (r1, r2, r3)) :
  Calls Tryz.prog 72 #[.pointer (some ⟨g, 0, none⟩), .int .i64 a1] w fun e w' => ∃ v0_ : Value, e = .returned (v0_) ∧ Kd.R (Kd.int .i64) 3 w' w.heap.size (fun _ => True) v0_ r1 ∧ IsS76 w0 w' g s0_0 r2 r3 ∧ Below w0.heap.size w0 w' ∧ KeepBut w w' g none := by
 have HI0 := Aside0.mk hI
 have HK := Aside0.mk (KeepBut.refl w g none)
 have HL := Aside0.mk hB.size
 clear hI
 have HW0 := Aside0.mk hB.size
 have HB := Aside0.mk hB
 clear hB
 have H : (spec_l02Draw.l0 k a1 (([] : List Int)) 0 s0_0 s0_1 s0_2) = some (r1, r2, r3) := h
 clear h
 obtain ⟨y199, hy199⟩ : ∃ y_ : List Int, y_ = (([] : List Int)) := ⟨_, rfl⟩
 replace H : (spec_l02Draw.l0 k a1 y199 0 s0_0 s0_1 s0_2) = some (r1, r2, r3) := by first | (rw [hy199]; with_reducible exact H) | (have H2_ := (Option.bind_some _ _).symm.trans H; rw [hy199]; with_reducible exact H2_) | (have H2_ := (Option.bind_some _ _).symm.trans H; with_reducible exact H2_) | with_reducible exact H | (rw [hy199]; exact H) | exact H
 have Ny199 := Aside0.mk hy199
 clear hy199
 have H' := Aside0.mk H
 clear H
 go_enter Tryz.func72, Tryz.ntmps72
 go_wp2_with (first | ((with_reducible refine gate_dst (N := 8) rfl ?_); refine Kd.R_lit (Kd.int .i64) _ 3 ?hg (N := 8) ?hd (xs := ([] : List Int)) (inner := []) (ok := fun _ => True) (okp := fun _ => True) ?hr ?hp (fun _ hk => hk) trivial (Below.refl _ _) (Nat.le_refl _) (by simp) ?_; (case hd => rfl); (case hg => rfl); (case hr => first | (go_simp; done) | (go_simp; rfl)); (case hp => exact (Reps.none _ _)); intro v200 w3 ho4 hb hg_ hnew_; clear hg_ hnew_; (first | rw [← Ny199.out] at ho4 | (simp only [Int.reduceToNat] at ho4; rw [← Ny199.out] at ho4)); have n0_ := Aside0.mk (Kd.R_lower ho4 (keep_size (w := w) (g := g) (row := none) (by repeat (first | (with_reducible first | exact HK.out | apply KeepBut.set_ | apply keep_drewN | apply keep_drew | apply keep_alloc) | exact HK.out)))); have n1_ := Aside0.mk (IsS76.below (by repeat (first | (with_reducible first | exact HI0.out | apply IsS76.alloc | apply IsS76.drewN | apply IsS76.drew | apply IsS76.set_1 | apply IsS76.set_2) | exact HI0.out)) hb); have n2_ := Aside0.mk (KeepBut.trans (by repeat (first | (with_reducible first | exact HK.out | apply KeepBut.set_ | apply keep_drewN | apply keep_drew | apply keep_alloc) | exact HK.out)) (KeepBut.of_below hb g none) (.inl rfl)); have n3_ := Aside0.mk (below_step (bX1 HB.out (IsS76.ge HI0.out)) hb); clear HI0 HK HB; have HO201 := n0_; have HI0 := n1_; have HK := n2_; have HB := n3_; clear n0_ n1_ n2_ n3_ hb ho4))
 go_loopg [5, 6] k (fun kq v5 v6 w' => ∃ (x5_1 : List Int) (x6_1 : Int) (x1001_1 : Int) (x1002_1 : Int), v6 = .int .i64 x6_1 ∧ Aside0 (spec_l02Draw.l0 kq a1 x5_1 x6_1 s0_0 x1001_1 x1002_1 = some (r1, r2, r3)) ∧ Aside0 (kq ≤ k) ∧ Aside0 (Kd.R (Kd.int .i64) 3 w' w.heap.size (fun _ => True) v5 x5_1) ∧ Aside0 (IsS76 w0 w' g s0_0 x1001_1 x1002_1) ∧ Aside0 (KeepBut w w' g none) ∧ Aside0 (Below w0.heap.size w0 w'))
 case atStart => exact ⟨(y199), (0), (s0_1), (s0_2), vX, H', ⟨Nat.le_refl _⟩, ⟨rX HO201.out⟩, ⟨by repeat (first | (with_reducible first | exact HI0.out | apply IsS76.alloc | apply IsS76.drewN | apply IsS76.drew | apply IsS76.set_1 | apply IsS76.set_2) | exact HI0.out)⟩, ⟨by repeat (first | (with_reducible first | exact HK.out | apply KeepBut.set_ | apply keep_drewN | apply keep_drew | apply keep_alloc) | exact HK.out)⟩, ⟨bX1 HB.out (IsS76.ge HI0.out)⟩⟩
 case round =>
 clear H'
 try clear p2
 obtain ⟨x5_1, x6_1, x1001_1, x1002_1, rfl, HA, HK1, HO_5, HI0, HK, HB⟩ := hrel
 cases gk with
 | zero => exact absurd HA.out (by simp [spec_l02Draw.l0])
 | succ k1 =>
 have H := HA.out
 clear HA
 simp only [spec_l02Draw.l0] at H
 by_cases c5 : x6_1 < a1
 {
 rw [if_pos c5] at H
 have c5b0 : decide (x6_1 < a1) = true := decide_eq_true c5
 clear c5
 replace H := Option.bind_eq_some_iff.mp H
 obtain ⟨⟨t202, t203, t204⟩, A60, H⟩ := H
 replace H : (if x5_1.length < 17592186044416 then ((some (x5_1 ++ [x6_1] : List Int)).bind fun y205 => (if 0 ≤ t202 then (if t202 < (y205.length : Int) then (if 0 ≤ x6_1 then (if x6_1 < (y205.length : Int) then (spec_l02Draw.l0 k1 a1 ((y205.set (x6_1 : Int).toNat (rd y205 t202)).set (t202 : Int).toNat x6_1) (wrap64 (x6_1 + 1)) s0_0 t203 t204) else (none)) else (none)) else (none)) else (none))) else (none)) = some (r1, r2, r3) := H
 have A6 := Aside0.mk A60
 clear A60
 by_cases c7 : x5_1.length < 17592186044416
 {
 rw [if_pos c7] at H
 have LMc7 := Aside0.mk c7
 clear c7
 obtain ⟨y205, hy205⟩ : ∃ y_ : List Int, y_ = (x5_1 ++ [x6_1]) := ⟨_, rfl⟩
 replace H : (if 0 ≤ t202 then (if t202 < (y205.length : Int) then (if 0 ≤ x6_1 then (if x6_1 < (y205.length : Int) then (spec_l02Draw.l0 k1 a1 ((y205.set (x6_1 : Int).toNat (rd y205 t202)).set (t202 : Int).toNat x6_1) (wrap64 (x6_1 + 1)) s0_0 t203 t204) else (none)) else (none)) else (none)) else (none)) = some (r1, r2, r3) := by first | (rw [hy205]; with_reducible exact H) | (have H2_ := (Option.bind_some _ _).symm.trans H; rw [hy205]; with_reducible exact H2_) | (have H2_ := (Option.bind_some _ _).symm.trans H; with_reducible exact H2_) | with_reducible exact H | (rw [hy205]; exact H) | exact H
 have Ny205 := Aside0.mk hy205
 clear hy205
 by_cases c8 : 0 ≤ t202
 {
 rw [if_pos c8] at H
 have c8b0 : decide (0 ≤ t202) = true := decide_eq_true c8
 clear c8
 by_cases c9 : t202 < (y205.length : Int)
 {
 rw [if_pos c9] at H
 have c9b0 : decide (t202 < (y205.length : Int)) = true := decide_eq_true c9
 clear c9
 by_cases c10 : 0 ≤ x6_1
 {
 rw [if_pos c10] at H
 have c10b0 : decide (0 ≤ x6_1) = true := decide_eq_true c10
 clear c10
 by_cases c11 : x6_1 < (y205.length : Int)
 {
 rw [if_pos c11] at H
 have c11b0 : decide (x6_1 < (y205.length : Int)) = true := decide_eq_true c11
 clear c11
 obtain ⟨y209, hy209⟩ : ∃ y_ : List Int, y_ = (y205.set (x6_1 : Int).toNat (rd y205 t202)) := ⟨_, rfl⟩
 replace H : (spec_l02Draw.l0 k1 a1 (y209.set (t202 : Int).toNat x6_1) (wrap64 (x6_1 + 1)) s0_0 t203 t204) = some (r1, r2, r3) := by first | (rw [hy209]; with_reducible exact H) | (have H2_ := (Option.bind_some _ _).symm.trans H; rw [hy209]; with_reducible exact H2_) | (have H2_ := (Option.bind_some _ _).symm.trans H; with_reducible exact H2_) | with_reducible exact H | (rw [hy209]; exact H) | exact H
 have Ny209 := Aside0.mk hy209
 clear hy209
 obtain ⟨y210, hy210⟩ : ∃ y_ : List Int, y_ = (y209.set (t202 : Int).toNat x6_1) := ⟨_, rfl⟩
 replace H : (spec_l02Draw.l0 k1 a1 y210 (wrap64 (x6_1 + 1)) s0_0 t203 t204) = some (r1, r2, r3) := by first | (rw [hy210]; with_reducible exact H) | (have H2_ := (Option.bind_some _ _).symm.trans H; rw [hy210]; with_reducible exact H2_) | (have H2_ := (Option.bind_some _ _).symm.trans H; with_reducible exact H2_) | with_reducible exact H | (rw [hy210]; exact H) | exact H
 have Ny210 := Aside0.mk hy210
 clear hy210
 have H' := Aside0.mk H
 clear H
 go_wp2_with (first | ((with_reducible refine gate_callee (f := 26) rfl ?_); refine goesL_ (some 17) rfl rfl Tryz.func26 (by kernel_rfl) rfl #[.pointer (some ⟨g, 0, none⟩), .int .i64 (wrap64 (x6_1 + 1))] rfl aX ?_; (with_reducible refine (spec_l01Below.calls g s0_0 x1001_1 x1002_1 (wrap64 (x6_1 + 1)) t202 t203 t204 w0 _ ?side1 ?side2 A6.out).mono ?_); (case side1 => repeat (first | (with_reducible first | exact HI0.out | apply IsS76.alloc | apply IsS76.drewN | apply IsS76.drew | apply IsS76.set_1 | apply IsS76.set_2) | exact HI0.out)); (case side2 => repeat (first | (with_reducible first | exact HB.out|apply bA|apply bN|apply bD | refine below_set ?_ (IsS76.ge HI0.out)) | exact HB.out)); rintro e w14 ⟨rfl, hi, hb, hk⟩; refine ⟨_, rfl, ?_⟩; have n0_ := Aside0.mk (Kd.R_mono (Kd.R_keep (IsS76.apart (show IsS76 w0 _ g s0_0 x1001_1 x1002_1 from by repeat (first | (with_reducible first | exact HI0.out | apply IsS76.alloc | apply IsS76.drewN | apply IsS76.drew | apply IsS76.set_1 | apply IsS76.set_2) | exact HI0.out)) (rX HO_5.out) (by decide)) hk (fun _ h => h.2)) (fun _ h => h.1)); have n1_ := Aside0.mk (KeepBut.trans (by repeat (first | (with_reducible first | exact HK.out | apply KeepBut.set_ | apply keep_drewN | apply keep_drew | apply keep_alloc) | exact HK.out)) hk (.inl rfl)); have n2_ := Aside0.mk (hb); have n3_ := Aside0.mk (hi); clear HO_5 HK HB HI0; have HO_5 := n0_; have HK := n1_; have HB := n2_; have HI0 := n3_; clear n0_ n1_ n2_ n3_; (try clear hb); (try clear hb2); (try clear hk); (try clear hi)) | ((with_reducible refine gate_builtin (b := .append) (xs := #[.tmp 18, .tmp 20]) rfl ?_); at_builtin; refine Kd.R_append (Kd.int .i64) w.heap.size rfl (.tmp 18) (.tmp 20) 23 3 (.int .i64 0) 8 rfl Tryz.underlying23 info3 rfl (by decide) (by omega) u5 x5_1 x6_1 [.int .i64 x6_1] (fun _ => True) (fun _ => False) rfl rfl ?aP (fun _ hk => hk.elim) ?aF ?aO (Below.refl _ _) ?aS ?aL ?_; (case aP => exact rfl); (case aF => exact (fun _ _ => trivial)); (case aO => exact (rX HO_5.out)); (case aS => exact (keep_size (w := w) (g := g) (row := none) (by repeat (first | (with_reducible first | exact HK.out | apply KeepBut.set_ | apply keep_drewN | apply keep_drew | apply keep_alloc) | exact HK.out)))); (case aL => have := LMc7.out; omega); intro v206 w15 ho hb hg hat; rw [← Ny205.out] at ho; have n0_ := Aside0.mk (IsS76.grown (by repeat (first | (with_reducible first | exact HI0.out | apply IsS76.alloc | apply IsS76.drewN | apply IsS76.drew | apply IsS76.set_1 | apply IsS76.set_2) | exact HI0.out)) hg (IsS76.own_ne HI0.out HO_5.out (by decide))); have n1_ := Aside0.mk (below_weaken (bX1 HB.out (IsS76.ge HI0.out)) HL.out hb); have n2_ := Aside0.mk (KeepBut.trans (by repeat (first | (with_reducible first | exact HK.out | apply KeepBut.set_ | apply keep_drewN | apply keep_drew | apply keep_alloc) | exact HK.out)) (KeepBut.of_grown hg g) (Kd.R_base2 HO_5.out)); have n3_ := Aside0.mk (ho); clear HI0 HB HK HO_5; have HI0 := n0_; have HB := n1_; have HK := n2_; have HO207 := n3_; clear n0_ n1_ n2_ n3_ ho hb hg hat; obtain ⟨Ao16, co16, eo16⟩ := Kd.R_slice HO207.out; subst eo16; have p208 : 0 ≤ (t202 : Int) := dX; have q208 : t202 < (y205.length : Int) := dX; obtain ⟨ad208, e208, hx208_0⟩ := Kd.at_int (Kd.R_reads' HO207.out).2.2 t202 p208 q208; cases e208; replace p208 := eq_true p208; replace q208 := eq_true q208; have p12 : 0 ≤ (x6_1 : Int) := dX; have q12 : (x6_1 : Int) < ((y205.length : Int) : Int) := dX; obtain ⟨go12, co12, eo12, gb12, gl12, cl12, HG12⟩ := Kd.R_form HO207.out (by omega); (first | cases eo12 | (injection eo12 with ea_ en_ ec_; (first | subst ea_ | (injection ea_ with ea_; subst ea_)); subst ec_; clear en_)); have GB12 := Aside0.mk gb12; have GG12 := Aside0.mk HG12; clear gb12 gl12 HG12; (first | simp only [add_plain] at hx208_0 | skip); obtain ⟨hx12_0, hf12_0⟩ := Kd.R_celln 0 HO207.out (x6_1 : Int) p12 q12; replace p12 := eq_true p12; replace q12 := eq_true q12; obtain ⟨hy17_, hz17_⟩ := Kd.R_celln 0 HO207.out (x6_1 : Int) (dX) (dX); have HP17 := Kd.R_putg HO207.out (x6_1 : Int) (rd y205 t202)) | ((with_reducible refine gate_store (t := 3) (p := 28) rfl ?_); refine store_event (t := 3) (p := 28) (v := ?vo_w18) (w1 := (w15.setCell ⟨go12, (x6_1 : Int).toNat, none⟩ (.int .i64 (rd y205 t202)))) ?hg ?ho ?hn ?hr ?_; (case ho => rfl); (case hg => rfl); (case hn => rfl); (case hr => first | (go_simp; done) | (go_simp; rfl)); intro w18 hw; have hg : w15.grownBy w18 (some go12) := (by rw [hw]; exact HP17.2); have hp_ : Kd.R (Kd.int .i64) 3 w18 w.heap.size (fun _ => True) (.slice (some ⟨go12, 0, none⟩) y205.length co16) y209 := (by rw [hw, Ny209.out]; exact HP17.1); clear HP17; have n0_ := Aside0.mk (IsS76.grown (by repeat (first | (with_reducible first | exact HI0.out | apply IsS76.alloc | apply IsS76.drewN | apply IsS76.drew | apply IsS76.set_1 | apply IsS76.set_2) | exact HI0.out)) hg (IsS76.own_ne HI0.out HO207.out (by decide))); have n1_ := Aside0.mk (hp_); have n2_ := Aside0.mk ((by rw [hw]; exact below_set (HB.out) (Nat.le_trans HL.out GB12.out) : Below w0.heap.size w0 w18)); have n3_ := Aside0.mk (KeepBut.trans (by repeat (first | (with_reducible first | exact HK.out | apply KeepBut.set_ | apply keep_drewN | apply keep_drew | apply keep_alloc) | exact HK.out)) (KeepBut.of_grown hg g) (Kd.R_base2 HO207.out)); clear HI0 HO207 HB HK; have HI0 := n0_; have HO207 := n1_; have HB := n2_; have HK := n3_; clear n0_ n1_ n2_ n3_ hg hw hp_; have p13 : 0 ≤ (t202 : Int) := dX; have q13 : (t202 : Int) < ((y205.length : Int) : Int) := dX; obtain ⟨hx13_0, hf13_0⟩ := Kd.R_celln 0 HO207.out (t202 : Int) p13 q13; replace p13 := eq_true p13; replace q13 := eq_true q13; obtain ⟨hy19_, hz19_⟩ := Kd.R_celln 0 HO207.out (t202 : Int) (dX) (dX); have HP19 := Kd.R_putg HO207.out (t202 : Int) x6_1) | ((with_reducible refine gate_store (t := 3) (p := 32) rfl ?_); refine store_event (t := 3) (p := 32) (v := ?vo_w20) (w1 := (w18.setCell ⟨go12, (t202 : Int).toNat, none⟩ (.int .i64 x6_1))) ?hg ?ho ?hn ?hr ?_; (case ho => rfl); (case hg => rfl); (case hn => rfl); (case hr => first | (go_simp; done) | (go_simp; rfl)); intro w20 hw; have hg : w18.grownBy w20 (some go12) := (by rw [hw]; exact HP19.2); have hp_ : Kd.R (Kd.int .i64) 3 w20 w.heap.size (fun _ => True) (.slice (some ⟨go12, 0, none⟩) y205.length co16) y210 := (by rw [hw, Ny210.out]; exact HP19.1); clear HP19; have n0_ := Aside0.mk (IsS76.grown (by repeat (first | (with_reducible first | exact HI0.out | apply IsS76.alloc | apply IsS76.drewN | apply IsS76.drew | apply IsS76.set_1 | apply IsS76.set_2) | exact HI0.out)) hg (IsS76.own_ne HI0.out HO207.out (by decide))); have n1_ := Aside0.mk (hp_); have n2_ := Aside0.mk ((by rw [hw]; exact below_set (HB.out) (Nat.le_trans HL.out GB12.out) : Below w0.heap.size w0 w20)); have n3_ := Aside0.mk (KeepBut.trans (by repeat (first | (with_reducible first | exact HK.out | apply KeepBut.set_ | apply keep_drewN | apply keep_drew | apply keep_alloc) | exact HK.out)) (KeepBut.of_grown hg g) (Kd.R_base2 HO207.out)); clear HI0 HO207 HB HK; have HI0 := n0_; have HO207 := n1_; have HB := n2_; have HK := n3_; clear n0_ n1_ n2_ n3_ hg hw hp_))
 go_roundg k1
 case measure => have := HK1.out; omega
 case rel => exact ⟨(y210), (wrap64 (x6_1 + 1)), (t203), (t204), vX, H', ⟨by have := HK1.out; omega⟩, ⟨rX HO207.out⟩, ⟨by repeat (first | (with_reducible first | exact HI0.out | apply IsS76.alloc | apply IsS76.drewN | apply IsS76.drew | apply IsS76.set_1 | apply IsS76.set_2) | exact HI0.out)⟩, ⟨by repeat (first | (with_reducible first | exact HK.out | apply KeepBut.set_ | apply keep_drewN | apply keep_drew | apply keep_alloc) | exact HK.out)⟩, ⟨bX1 HB.out (IsS76.ge HI0.out)⟩⟩
 }
 {
 rw [if_neg c11] at H
 exact absurd H (by simp)
 }
 }
 {
 rw [if_neg c10] at H
 exact absurd H (by simp)
 }
 }
 {
 rw [if_neg c9] at H
 exact absurd H (by simp)
 }
 }
 {
 rw [if_neg c8] at H
 exact absurd H (by simp)
 }
 }
 {
 rw [if_neg c7] at H
 exact absurd H (by simp)
 }
 }
 {
 rw [if_neg c5] at H
 have c5b0 : decide (x6_1 < a1) = false := decide_eq_false c5
 clear c5
 simp only [Option.some.injEq, Prod.mk.injEq] at H
 obtain ⟨rfl, rfl, rfl⟩ := H
 go_wp2
 go_ret
 exact ⟨_, eX, by (with_reducible repeat (first|apply rA|apply rN|apply rD)); exact HO_5.out, by repeat (first | (with_reducible first | exact HI0.out | apply IsS76.alloc | apply IsS76.drewN | apply IsS76.drew | apply IsS76.set_1 | apply IsS76.set_2) | exact HI0.out), bX1 HB.out (IsS76.ge HI0.out), by repeat (first | (with_reducible first | exact HK.out | apply KeepBut.set_ | apply keep_drewN | apply keep_drew | apply keep_alloc) | exact HK.out)⟩
 }

/-! ### spec_l03Draw: function 30 -/
def spec_l03Draw.l0 : Nat → Int → Int → List Int → Int → Int → Option (List Int × List Int × Int × Int)
 | 0, _, _, _, _, _ => none
 | k + 1, x5, x6, x1000, x1001, x1002 => if x6 < 8 then ((spec_l02Draw.f k x1000 x1001 x1002 x5).bind fun bt223 => ((spec_l02Draw.f k x1000 bt223.2.1 bt223.2.2 x5).bind fun bt228 => ((spec_SurfaceOk.f k bt223.1 bt228.1).bind fun t234 => (if t234 = true then (some (bt223.1, bt228.1, bt228.2.1, bt228.2.2)) else (spec_l03Draw.l0 k x5 (wrap64 (x6 + 1)) x1000 bt228.2.1 bt228.2.2))))) else ((spec_EllOf.f k x5 1).bind fun bt215 => (some (bt215.1, bt215.2.1, x1001, x1002)))
def spec_l03Draw.f (k : Nat) (s0_0 : List Int) (s0_1 : Int) (s0_2 : Int) (a1 : Int) : Option (List Int × List Int × Int × Int) := (spec_l01Below.f s0_0 s0_1 s0_2 a1).bind fun bt212 => (spec_l03Draw.l0 k (wrap64 (1 + bt212.1)) 0 s0_0 bt212.2.1 bt212.2.2)
set_option maxHeartbeats 8000000 in
set_option maxRecDepth 100000 in
theorem spec_l03Draw.calls (k : Nat) (g : Nat) (s0_0 : List Int) (s0_1 : Int) (s0_2 : Int) (a1 : Int) (r1 : List Int) (r2 : List Int) (r3 : Int) (r4 : Int) (w0 w : World) (hI : IsS76 w0 w g s0_0 s0_1 s0_2) (hB : Below w0.heap.size w0 w) (h : spec_l03Draw.f k s0_0 s0_1 s0_2 a1 = some (r1, r2, r3, r4)) :
  Calls Tryz.prog 30 #[.pointer (some ⟨g, 0, none⟩), .int .i64 a1] w fun e w' => ∃ v0_ v1_ : Value, e = .returned (.agg #[v0_, v1_]) ∧ Kd.R (Kd.int .i64) 3 w' w.heap.size (fun k_ => some k_ ≠ (v1_ : Value).ownBlock) v0_ r1 ∧ Kd.R (Kd.int .i64) 3 w' w.heap.size (fun k_ => some k_ ≠ (v0_ : Value).ownBlock) v1_ r2 ∧ IsS76 w0 w' g s0_0 r3 r4 ∧ Below w0.heap.size w0 w' ∧ KeepBut w w' g none := by
 have hu25 := Tryz.underlying25
 have HI0 := Aside0.mk hI
 have HK := Aside0.mk (KeepBut.refl w g none)
 have HL := Aside0.mk hB.size
 clear hI
 have HW0 := Aside0.mk hB.size
 have HB := Aside0.mk hB
 clear hB
 have H : ((spec_l01Below.f s0_0 s0_1 s0_2 a1).bind fun bt212 => (spec_l03Draw.l0 k (wrap64 (1 + bt212.1)) 0 s0_0 bt212.2.1 bt212.2.2)) = some (r1, r2, r3, r4) := h
 clear h
 replace H := Option.bind_eq_some_iff.mp H
 obtain ⟨⟨t212, t213, t214⟩, A30, H⟩ := H
 replace H : (spec_l03Draw.l0 k (wrap64 (1 + t212)) 0 s0_0 t213 t214) = some (r1, r2, r3, r4) := H
 have A3 := Aside0.mk A30
 clear A30
 have H' := Aside0.mk H
 clear H
 go_enter Tryz.func30, Tryz.ntmps30
 go_wp2_with (first | ((with_reducible refine gate_dst (N := 4) rfl ?_); refine box_event ?hg (N := 4) ?hd (cs := #[.slice none 0 0, .slice none 0 0]) (t := 25) ?hr ?_; (case hd => rfl); (case hg => rfl); (case hr => first | (go_simp; done) | (go_simp; rfl)); intro gb211 hg w4 hbox hb; have n0_ := Aside0.mk (IsS76.below (by repeat (first | (with_reducible first | exact HI0.out | apply IsS76.alloc | apply IsS76.drewN | apply IsS76.drew | apply IsS76.set_1 | apply IsS76.set_2) | exact HI0.out)) hb); have n1_ := Aside0.mk (KeepBut.trans (by repeat (first | (with_reducible first | exact HK.out | apply KeepBut.set_ | apply keep_drewN | apply keep_drew | apply keep_alloc) | exact HK.out)) (KeepBut.of_below hb g none) (.inl rfl)); have n2_ := Aside0.mk (below_step (bX1 HB.out (IsS76.ge HI0.out)) hb); have n3_ := Aside0.mk (hbox); have n4_ := Aside0.mk ((by rw [hg]; exact (keep_size (w := w) (g := g) (row := none) (by repeat (first | (with_reducible first | exact HK.out | apply KeepBut.set_ | apply keep_drewN | apply keep_drew | apply keep_alloc) | exact HK.out))) : w.heap.size ≤ gb211)); have n5_ := Aside0.mk ((Nat.le_trans HW0.out (by rw [hg]; exact (keep_size (w := w) (g := g) (row := none) (by repeat (first | (with_reducible first | exact HK.out | apply KeepBut.set_ | apply keep_drewN | apply keep_drew | apply keep_alloc) | exact HK.out))) : w.heap.size ≤ gb211) : w0.heap.size ≤ gb211)); have n6_ := Aside0.mk ((by rw [hg]; exact Nat.ne_of_lt (IsS76.lt (show IsS76 w0 _ g s0_0 s0_1 s0_2 from by repeat (first | (with_reducible first | exact HI0.out | apply IsS76.alloc | apply IsS76.drewN | apply IsS76.drew | apply IsS76.set_1 | apply IsS76.set_2) | exact HI0.out))) : g ≠ gb211)); have n7_ := Aside0.mk ((by rw [hg]; exact Nat.ne_of_gt (IsS76.lt (show IsS76 w0 _ g s0_0 s0_1 s0_2 from by repeat (first | (with_reducible first | exact HI0.out | apply IsS76.alloc | apply IsS76.drewN | apply IsS76.drew | apply IsS76.set_1 | apply IsS76.set_2) | exact HI0.out))) : gb211 ≠ g)); clear HI0 HK HB; have HI0 := n0_; have HK := n1_; have HB := n2_; have BK211 := n3_; have GW211 := n4_; have GE211 := n5_; have NB0_211 := n6_; have NB211_0 := n7_; clear n0_ n1_ n2_ n3_ n4_ n5_ n6_ n7_ hb hbox hg) | ((with_reducible refine gate_callee (f := 26) rfl ?_); refine goesL_ (some 12) rfl rfl Tryz.func26 (by kernel_rfl) rfl #[.pointer (some ⟨g, 0, none⟩), .int .i64 a1] rfl aX ?_; (with_reducible refine (spec_l01Below.calls g s0_0 s0_1 s0_2 a1 t212 t213 t214 w0 _ ?side1 ?side2 A3.out).mono ?_); (case side1 => repeat (first | (with_reducible first | exact HI0.out | apply IsS76.alloc | apply IsS76.drewN | apply IsS76.drew | apply IsS76.set_1 | apply IsS76.set_2 | refine IsS76.far ?_ NB0_211.out _) | exact HI0.out)); (case side2 => repeat (first | (with_reducible first | exact HB.out|apply bA|apply bN|apply bD | refine below_set ?_ (IsS76.ge HI0.out) | refine below_set ?_ GE211.out) | exact HB.out)); rintro e w5 ⟨rfl, hi, hb, hk⟩; refine ⟨_, rfl, ?_⟩; have n0_ := Aside0.mk (KeepBut.blk hk (g' := gb211) (o := .cells #[.slice none 0 0, .slice none 0 0] 25 (0, 0)) (kX BK211.out) NB211_0.out (by simp)); have n1_ := Aside0.mk (KeepBut.trans (by repeat (first | (with_reducible first | exact HK.out | apply KeepBut.set_ | apply keep_drewN | apply keep_drew | apply keep_alloc | refine keep_far ?_ GW211.out _) | exact HK.out)) hk (.inl rfl)); have n2_ := Aside0.mk (hb); have n3_ := Aside0.mk (hi); clear BK211 HK HB HI0; have BK211 := n0_; have HK := n1_; have HB := n2_; have HI0 := n3_; clear n0_ n1_ n2_ n3_; (try clear hb); (try clear hb2); (try clear hk); (try clear hi)))
 go_loopg [6] k (fun kq v6 w' => ∃ (x6_1 : Int) (x1001_1 : Int) (x1002_1 : Int), v6 = .int .i64 x6_1 ∧ Aside0 (spec_l03Draw.l0 kq (wrap64 (1 + t212)) x6_1 s0_0 x1001_1 x1002_1 = some (r1, r2, r3, r4)) ∧ Aside0 (kq ≤ k) ∧ Aside0 (w'.heap[gb211]? = some (.cells #[(.slice none 0 0), (.slice none 0 0)] 25 (0, 0))) ∧ Aside0 (IsS76 w0 w' g s0_0 x1001_1 x1002_1) ∧ Aside0 (KeepBut w w' g none) ∧ Aside0 (Below w0.heap.size w0 w'))
 case atStart => exact ⟨(0), (t213), (t214), vX, H', ⟨Nat.le_refl _⟩, ⟨kX BK211.out⟩, ⟨by repeat (first | (with_reducible first | exact HI0.out | apply IsS76.alloc | apply IsS76.drewN | apply IsS76.drew | apply IsS76.set_1 | apply IsS76.set_2 | refine IsS76.far ?_ NB0_211.out _) | exact HI0.out)⟩, ⟨by repeat (first | (with_reducible first | exact HK.out | apply KeepBut.set_ | apply keep_drewN | apply keep_drew | apply keep_alloc | refine keep_far ?_ GW211.out _) | exact HK.out)⟩, ⟨bX2 HB.out (IsS76.ge HI0.out) GE211.out⟩⟩
 case round =>
 clear H'
 try clear c2
 try clear p2
 try clear c3
 obtain ⟨x6_1, x1001_1, x1002_1, rfl, HA, HK1, BK211, HI0, HK, HB⟩ := hrel
 cases gk with
 | zero => exact absurd HA.out (by simp [spec_l03Draw.l0])
 | succ k1 =>
 have H := HA.out
 clear HA
 simp only [spec_l03Draw.l0] at H
 by_cases c6 : x6_1 < 8
 {
 rw [if_pos c6] at H
 have c6b0 : decide (x6_1 < 8) = true := decide_eq_true c6
 clear c6
 replace H := Option.bind_eq_some_iff.mp H
 obtain ⟨⟨t223, t226, t227⟩, A70, H⟩ := H
 replace H : ((spec_l02Draw.f k1 s0_0 t226 t227 (wrap64 (1 + t212))).bind fun bt228 => ((spec_SurfaceOk.f k1 t223 bt228.1).bind fun t234 => (if t234 = true then (some (t223, bt228.1, bt228.2.1, bt228.2.2)) else (spec_l03Draw.l0 k1 (wrap64 (1 + t212)) (wrap64 (x6_1 + 1)) s0_0 bt228.2.1 bt228.2.2)))) = some (r1, r2, r3, r4) := H
 have A7 := Aside0.mk A70
 clear A70
 replace H := Option.bind_eq_some_iff.mp H
 obtain ⟨⟨t228, t231, t232⟩, A80, H⟩ := H
 replace H : ((spec_SurfaceOk.f k1 t223 t228).bind fun t234 => (if t234 = true then (some (t223, t228, t231, t232)) else (spec_l03Draw.l0 k1 (wrap64 (1 + t212)) (wrap64 (x6_1 + 1)) s0_0 t231 t232))) = some (r1, r2, r3, r4) := H
 have A8 := Aside0.mk A80
 clear A80
 replace H := Option.bind_eq_some_iff.mp H
 obtain ⟨t234, A90, H⟩ := H
 replace H : (if t234 = true then (some (t223, t228, t231, t232)) else (spec_l03Draw.l0 k1 (wrap64 (1 + t212)) (wrap64 (x6_1 + 1)) s0_0 t231 t232)) = some (r1, r2, r3, r4) := H
 have A9 := Aside0.mk A90
 clear A90
 by_cases c10 : t234 = true
 {
 subst c10
 have H1 : (some (t223, t228, t231, t232)) = some (r1, r2, r3, r4) := by rw [if_pos rfl] at H; exact H
 clear H
 have H := H1
 clear H1
 simp only [Option.some.injEq, Prod.mk.injEq] at H
 obtain ⟨rfl, rfl, rfl, rfl⟩ := H
 go_wp2_with (first | ((with_reducible refine gate_callee (f := 72) rfl ?_); refine goesL_ (some 20) rfl rfl Tryz.func72 (by kernel_rfl) rfl #[.pointer (some ⟨g, 0, none⟩), .int .i64 (wrap64 (1 + t212))] rfl aX ?_; (with_reducible refine (spec_l02Draw.calls k1 g s0_0 x1001_1 x1002_1 (wrap64 (1 + t212)) t223 t226 t227 w0 _ ?side1 ?side2 A7.out).mono ?_); (case side1 => repeat (first | (with_reducible first | exact HI0.out | apply IsS76.alloc | apply IsS76.drewN | apply IsS76.drew | apply IsS76.set_1 | apply IsS76.set_2 | refine IsS76.far ?_ NB0_211.out _) | exact HI0.out)); (case side2 => repeat (first | (with_reducible first | exact HB.out|apply bA|apply bN|apply bD | refine below_set ?_ (IsS76.ge HI0.out) | refine below_set ?_ GE211.out) | exact HB.out)); rintro e w11 ⟨v224, rfl, ho0, hi, hb, hk⟩; refine ⟨_, rfl, ?_⟩; have n0_ := Aside0.mk (KeepBut.blk hk (g' := gb211) (o := .cells #[.slice none 0 0, .slice none 0 0] 25 (0, 0)) (kX BK211.out) NB211_0.out (by simp)); have n1_ := Aside0.mk (Kd.R_lower ho0 (keep_size (w := w) (g := g) (row := none) (by repeat (first | (with_reducible first | exact HK.out | apply KeepBut.set_ | apply keep_drewN | apply keep_drew | apply keep_alloc | refine keep_far ?_ GW211.out _) | exact HK.out)))); have n2_ := Aside0.mk (KeepBut.trans (by repeat (first | (with_reducible first | exact HK.out | apply KeepBut.set_ | apply keep_drewN | apply keep_drew | apply keep_alloc | refine keep_far ?_ GW211.out _) | exact HK.out)) hk (.inl rfl)); have n3_ := Aside0.mk (hb); have n4_ := Aside0.mk (hi); clear BK211 HK HB HI0; have BK211 := n0_; have HO225 := n1_; have HK := n2_; have HB := n3_; have HI0 := n4_; clear n0_ n1_ n2_ n3_ n4_; (try clear hb); (try clear hb2); (try clear hk); (try clear hi); (try clear ho0)) | ((with_reducible refine gate_callee (f := 72) rfl ?_); refine goesL_ (some 23) rfl rfl Tryz.func72 (by kernel_rfl) rfl #[.pointer (some ⟨g, 0, none⟩), .int .i64 (wrap64 (1 + t212))] rfl aX ?_; (with_reducible refine (spec_l02Draw.calls k1 g s0_0 t226 t227 (wrap64 (1 + t212)) t228 t231 t232 w0 _ ?side1 ?side2 A8.out).mono ?_); (case side1 => repeat (first | (with_reducible first | exact HI0.out | apply IsS76.alloc | apply IsS76.drewN | apply IsS76.drew | apply IsS76.set_1 | apply IsS76.set_2 | refine IsS76.far ?_ NB0_211.out _) | exact HI0.out)); (case side2 => repeat (first | (with_reducible first | exact HB.out|apply bA|apply bN|apply bD | refine below_set ?_ (IsS76.ge HI0.out) | refine below_set ?_ GE211.out) | exact HB.out)); rintro e w12 ⟨v229, rfl, ho0, hi, hb, hk⟩; refine ⟨_, rfl, ?_⟩; have n0_ := Aside0.mk (KeepBut.blk hk (g' := gb211) (o := .cells #[.slice none 0 0, .slice none 0 0] 25 (0, 0)) (kX BK211.out) NB211_0.out (by simp)); have n1_ := Aside0.mk (Kd.R_mono (Kd.R_told (Kd.R_oldK (IsS76.apart (show IsS76 w0 _ g s0_0 t226 t227 from by repeat (first | (with_reducible first | exact HI0.out | apply IsS76.alloc | apply IsS76.drewN | apply IsS76.drew | apply IsS76.set_1 | apply IsS76.set_2 | refine IsS76.far ?_ NB0_211.out _) | exact HI0.out)) (rX HO225.out) (by decide)) hk) (Kd.R_base ho0)) (fun _ h_ => h_.1)); have n2_ := Aside0.mk (Kd.R_lower (Kd.R_new' ho0 (Kd.R_lt (rX HO225.out))) (keep_size (w := w) (g := g) (row := none) (by repeat (first | (with_reducible first | exact HK.out | apply KeepBut.set_ | apply keep_drewN | apply keep_drew | apply keep_alloc | refine keep_far ?_ GW211.out _) | exact HK.out)))); have n3_ := Aside0.mk (KeepBut.trans (by repeat (first | (with_reducible first | exact HK.out | apply KeepBut.set_ | apply keep_drewN | apply keep_drew | apply keep_alloc | refine keep_far ?_ GW211.out _) | exact HK.out)) hk (.inl rfl)); have n4_ := Aside0.mk (hb); have n5_ := Aside0.mk (hi); clear BK211 HO225 HK HB HI0; have BK211 := n0_; have HO225 := n1_; have HO230 := n2_; have HK := n3_; have HB := n4_; have HI0 := n5_; clear n0_ n1_ n2_ n3_ n4_ n5_; (try clear hb); (try clear hb2); (try clear hk); (try clear hi); (try clear ho0); obtain ⟨Ao13, co13, eo13⟩ := Kd.R_slice HO230.out; subst eo13; obtain ⟨Ao14, co14, eo14⟩ := Kd.R_slice HO225.out; subst eo14) | ((with_reducible refine gate_dst (N := 7) rfl ?_); refine box_event ?hg (N := 7) ?hd (cs := #[.slice none 0 0, .slice none 0 0]) (t := 25) ?hr ?_; (case hd => rfl); (case hg => rfl); (case hr => first | (go_simp; done) | (go_simp; rfl)); intro gb233 hg w15 hbox hb; have n0_ := Aside0.mk (Kd.R_below (rX HO225.out) hb); have n1_ := Aside0.mk (Kd.R_below (rX HO230.out) hb); have n2_ := Aside0.mk (bbX BK211.out hb); have n3_ := Aside0.mk (IsS76.below (by repeat (first | (with_reducible first | exact HI0.out | apply IsS76.alloc | apply IsS76.drewN | apply IsS76.drew | apply IsS76.set_1 | apply IsS76.set_2 | refine IsS76.far ?_ NB0_211.out _) | exact HI0.out)) hb); have n4_ := Aside0.mk (KeepBut.trans (by repeat (first | (with_reducible first | exact HK.out | apply KeepBut.set_ | apply keep_drewN | apply keep_drew | apply keep_alloc | refine keep_far ?_ GW211.out _) | exact HK.out)) (KeepBut.of_below hb g none) (.inl rfl)); have n5_ := Aside0.mk (below_step (bX2 HB.out (IsS76.ge HI0.out) GE211.out) hb); have n6_ := Aside0.mk (hbox); have n7_ := Aside0.mk ((by rw [hg]; exact (keep_size (w := w) (g := g) (row := none) (by repeat (first | (with_reducible first | exact HK.out | apply KeepBut.set_ | apply keep_drewN | apply keep_drew | apply keep_alloc | refine keep_far ?_ GW211.out _) | exact HK.out))) : w.heap.size ≤ gb233)); have n8_ := Aside0.mk ((Nat.le_trans HW0.out (by rw [hg]; exact (keep_size (w := w) (g := g) (row := none) (by repeat (first | (with_reducible first | exact HK.out | apply KeepBut.set_ | apply keep_drewN | apply keep_drew | apply keep_alloc | refine keep_far ?_ GW211.out _) | exact HK.out))) : w.heap.size ≤ gb233) : w0.heap.size ≤ gb233)); have n9_ := Aside0.mk (neX BK211.out hg); have n10_ := Aside0.mk (nfX BK211.out hg); have n11_ := Aside0.mk ((by rw [hg]; exact Nat.ne_of_lt (IsS76.lt (show IsS76 w0 _ g s0_0 t231 t232 from by repeat (first | (with_reducible first | exact HI0.out | apply IsS76.alloc | apply IsS76.drewN | apply IsS76.drew | apply IsS76.set_1 | apply IsS76.set_2 | refine IsS76.far ?_ NB0_211.out _) | exact HI0.out))) : g ≠ gb233)); have n12_ := Aside0.mk ((by rw [hg]; exact Nat.ne_of_gt (IsS76.lt (show IsS76 w0 _ g s0_0 t231 t232 from by repeat (first | (with_reducible first | exact HI0.out | apply IsS76.alloc | apply IsS76.drewN | apply IsS76.drew | apply IsS76.set_1 | apply IsS76.set_2 | refine IsS76.far ?_ NB0_211.out _) | exact HI0.out))) : gb233 ≠ g)); clear HO225 HO230 BK211 HI0 HK HB; have HO225 := n0_; have HO230 := n1_; have BK211 := n2_; have HI0 := n3_; have HK := n4_; have HB := n5_; have BK233 := n6_; have GW233 := n7_; have GE233 := n8_; have NB211_233 := n9_; have NB233_211 := n10_; have NB0_233 := n11_; have NB233_0 := n12_; clear n0_ n1_ n2_ n3_ n4_ n5_ n6_ n7_ n8_ n9_ n10_ n11_ n12_ hb hbox hg; have hnb16 := NB233_211.out; have hnc16 := NB211_233.out; have hnb17 := NB233_0.out; have hnc17 := NB0_233.out; have hcz18_0 := cz20 BK233.out; have hcz18_1 := cz21 BK233.out; have hfz18_0 := blk_frozen BK233.out 0; have hfz18_1 := blk_frozen BK233.out 1) | ((with_reducible refine gate_callee (f := 50) rfl ?_); refine goesL_ (some 26) rfl rfl Tryz.func50 (by kernel_rfl) rfl #[.agg #[.slice Ao14 t223.length co14, .slice Ao13 t228.length co13]] rfl aX ?_; (with_reducible refine (spec_SurfaceOk.calls k1 _ _ t223 _ _ t228 true _ ?side1 ?side2 ?side3 ?side4 A9.out).mono ?_); (case side1 => exact rcX (fr2 HO225.out BK233.out (.slice Ao14 t223.length co14) (.slice Ao13 t228.length co13))); (case side2 => exact (Kd.R_reads' HO225.out).2.1); (case side3 => exact rcX (fr2 HO230.out BK233.out (.slice Ao14 t223.length co14) (.slice Ao13 t228.length co13))); (case side4 => exact (Kd.R_reads' HO230.out).2.1); rintro e w19 ⟨rfl, hb⟩; refine ⟨_, rfl, ?_⟩; have n0_ := Aside0.mk (Kd.R_below (rX (fr2 HO225.out BK233.out (.slice Ao14 t223.length co14) (.slice Ao13 t228.length co13))) hb); have n1_ := Aside0.mk (Kd.R_below (rX (fr2 HO230.out BK233.out (.slice Ao14 t223.length co14) (.slice Ao13 t228.length co13))) hb); have n2_ := Aside0.mk (blk_below (g := gb211) (o := .cells #[.slice none 0 0, .slice none 0 0] 25 (0, 0)) (by (with_reducible repeat (first|refine kN ?_ _|refine kD ?_|refine kA ?_ _)); refine blk_far ?_ NB211_233.out _; (with_reducible repeat (first|refine kN ?_ _|refine kD ?_|refine kA ?_ _)); refine blk_far ?_ NB211_233.out _; (with_reducible repeat (first|refine kN ?_ _|refine kD ?_|refine kA ?_ _)); exact BK211.out) hb); have n3_ := Aside0.mk (IsS76.below (show IsS76 w0 ((w15.setCell ⟨gb233, 0, none⟩ (.slice Ao14 t223.length co14)).setCell ⟨gb233, 1, none⟩ (.slice Ao13 t228.length co13)) g s0_0 t231 t232 from by repeat (first | (with_reducible first | exact HI0.out | apply IsS76.alloc | apply IsS76.drewN | apply IsS76.drew | apply IsS76.set_1 | apply IsS76.set_2 | refine IsS76.far ?_ NB0_211.out _ | refine IsS76.far ?_ NB0_233.out _) | exact HI0.out)) hb); have n4_ := Aside0.mk (blk_below (g := gb233) (o := .cells #[.slice Ao14 t223.length co14, .slice Ao13 t228.length co13] 25 (0, 0)) (by (with_reducible repeat (first|refine kN ?_ _|refine kD ?_|refine kA ?_ _)); refine blk_put (cs := #[.slice Ao14 t223.length co14, .slice none 0 0]) ?_ 1 _ rfl; (with_reducible repeat (first|refine kN ?_ _|refine kD ?_|refine kA ?_ _)); refine blk_put (cs := #[.slice none 0 0, .slice none 0 0]) ?_ 0 _ rfl; (with_reducible repeat (first|refine kN ?_ _|refine kD ?_|refine kA ?_ _)); exact BK233.out) hb); have n5_ := Aside0.mk (KeepBut.trans (by repeat (first | (with_reducible first | exact HK.out | apply KeepBut.set_ | apply keep_drewN | apply keep_drew | apply keep_alloc | refine keep_far ?_ GW211.out _ | refine keep_far ?_ GW233.out _) | exact HK.out)) (KeepBut.of_below hb g none) (.inl rfl)); have n6_ := Aside0.mk (below_step (bX3 HB.out (IsS76.ge HI0.out) GE211.out GE233.out) hb); clear HO225 HO230 BK211 HI0 BK233 HK HB; have HO225 := n0_; have HO230 := n1_; have BK211 := n2_; have HI0 := n3_; have BK233 := n4_; have HK := n5_; have HB := n6_; clear n0_ n1_ n2_ n3_ n4_ n5_ n6_; (try clear hb); (try clear hb2); (try clear hk); (try clear hi); have hcz20_0 := cz20 BK233.out; have hcz20_1 := cz21 BK233.out; have hfz20_0 := blk_frozen BK233.out 0; have hfz20_1 := blk_frozen BK233.out 1; have hnb21 := NB211_0.out; have hnc21 := NB0_211.out; have hcz22_0 := cz20 BK211.out; have hcz22_1 := cz21 BK211.out; have hfz22_0 := blk_frozen BK211.out 0; have hfz22_1 := blk_frozen BK211.out 1))
 refine bodyPost_ret (results_cell_row rfl _ _ gb211 25 #[.slice Ao14 t223.length co14, .slice Ao13 t228.length co13] (0, 0) _ rfl (by (with_reducible repeat (first|refine kN ?_ _|refine kD ?_|refine kA ?_ _)); refine blk_put (cs := #[.slice Ao14 t223.length co14, .slice none 0 0]) ?_ 1 _ rfl; (with_reducible repeat (first|refine kN ?_ _|refine kD ?_|refine kA ?_ _)); refine blk_put (cs := #[.slice none 0 0, .slice none 0 0]) ?_ 0 _ rfl; (with_reducible repeat (first|refine kN ?_ _|refine kD ?_|refine kA ?_ _)); exact BK211.out) Tryz.underlying25 rfl (by kernel_rfl)) rfl ?_
 exact ⟨_, _, eX, by (with_reducible repeat (first|apply rA|apply rN|apply rD)); exact Kd.R_mono (Kd.R_far (p := ⟨gb211, 1, none⟩) (Kd.R_far (p := ⟨gb211, 0, none⟩) (Kd.R_types HO225.out BK211.out (by decide)) (fun _ hk => hk.2) (.slice Ao14 t223.length co14)) (fun _ hk => hk.2) (.slice Ao13 t228.length co13)) (fun _ hk => hk.1.2), by (with_reducible repeat (first|apply rA|apply rN|apply rD)); exact Kd.R_mono (Kd.R_far (p := ⟨gb211, 1, none⟩) (Kd.R_far (p := ⟨gb211, 0, none⟩) (Kd.R_types HO230.out BK211.out (by decide)) (fun _ hk => hk.2) (.slice Ao14 t223.length co14)) (fun _ hk => hk.2) (.slice Ao13 t228.length co13)) (fun _ hk => hk.1.2), by repeat (first | (with_reducible first | exact HI0.out | apply IsS76.alloc | apply IsS76.drewN | apply IsS76.drew | apply IsS76.set_1 | apply IsS76.set_2 | refine IsS76.far ?_ NB0_211.out _ | refine IsS76.far ?_ NB0_233.out _) | exact HI0.out), bX3 HB.out (IsS76.ge HI0.out) GE211.out GE233.out, by repeat (first | (with_reducible first | exact HK.out | apply KeepBut.set_ | apply keep_drewN | apply keep_drew | apply keep_alloc | refine keep_far ?_ GW211.out _ | refine keep_far ?_ GW233.out _) | exact HK.out)⟩
 }
 {
 replace c10 := Bool.eq_false_iff.mpr c10
 subst c10
 have H1 : (spec_l03Draw.l0 k1 (wrap64 (1 + t212)) (wrap64 (x6_1 + 1)) s0_0 t231 t232) = some (r1, r2, r3, r4) := by rw [if_neg (show ¬ (false = true) by decide)] at H; exact H
 clear H
 have H := H1
 clear H1
 have H' := Aside0.mk H
 clear H
 go_wp2_with (first | ((with_reducible refine gate_callee (f := 72) rfl ?_); refine goesL_ (some 20) rfl rfl Tryz.func72 (by kernel_rfl) rfl #[.pointer (some ⟨g, 0, none⟩), .int .i64 (wrap64 (1 + t212))] rfl aX ?_; (with_reducible refine (spec_l02Draw.calls k1 g s0_0 x1001_1 x1002_1 (wrap64 (1 + t212)) t223 t226 t227 w0 _ ?side1 ?side2 A7.out).mono ?_); (case side1 => repeat (first | (with_reducible first | exact HI0.out | apply IsS76.alloc | apply IsS76.drewN | apply IsS76.drew | apply IsS76.set_1 | apply IsS76.set_2 | refine IsS76.far ?_ NB0_211.out _) | exact HI0.out)); (case side2 => repeat (first | (with_reducible first | exact HB.out|apply bA|apply bN|apply bD | refine below_set ?_ (IsS76.ge HI0.out) | refine below_set ?_ GE211.out) | exact HB.out)); rintro e w23 ⟨v224, rfl, ho0, hi, hb, hk⟩; refine ⟨_, rfl, ?_⟩; have n0_ := Aside0.mk (KeepBut.blk hk (g' := gb211) (o := .cells #[.slice none 0 0, .slice none 0 0] 25 (0, 0)) (kX BK211.out) NB211_0.out (by simp)); have n1_ := Aside0.mk (Kd.R_lower ho0 (keep_size (w := w) (g := g) (row := none) (by repeat (first | (with_reducible first | exact HK.out | apply KeepBut.set_ | apply keep_drewN | apply keep_drew | apply keep_alloc | refine keep_far ?_ GW211.out _) | exact HK.out)))); have n2_ := Aside0.mk (KeepBut.trans (by repeat (first | (with_reducible first | exact HK.out | apply KeepBut.set_ | apply keep_drewN | apply keep_drew | apply keep_alloc | refine keep_far ?_ GW211.out _) | exact HK.out)) hk (.inl rfl)); have n3_ := Aside0.mk (hb); have n4_ := Aside0.mk (hi); clear BK211 HK HB HI0; have BK211 := n0_; have HO225 := n1_; have HK := n2_; have HB := n3_; have HI0 := n4_; clear n0_ n1_ n2_ n3_ n4_; (try clear hb); (try clear hb2); (try clear hk); (try clear hi); (try clear ho0)) | ((with_reducible refine gate_callee (f := 72) rfl ?_); refine goesL_ (some 23) rfl rfl Tryz.func72 (by kernel_rfl) rfl #[.pointer (some ⟨g, 0, none⟩), .int .i64 (wrap64 (1 + t212))] rfl aX ?_; (with_reducible refine (spec_l02Draw.calls k1 g s0_0 t226 t227 (wrap64 (1 + t212)) t228 t231 t232 w0 _ ?side1 ?side2 A8.out).mono ?_); (case side1 => repeat (first | (with_reducible first | exact HI0.out | apply IsS76.alloc | apply IsS76.drewN | apply IsS76.drew | apply IsS76.set_1 | apply IsS76.set_2 | refine IsS76.far ?_ NB0_211.out _) | exact HI0.out)); (case side2 => repeat (first | (with_reducible first | exact HB.out|apply bA|apply bN|apply bD | refine below_set ?_ (IsS76.ge HI0.out) | refine below_set ?_ GE211.out) | exact HB.out)); rintro e w24 ⟨v229, rfl, ho0, hi, hb, hk⟩; refine ⟨_, rfl, ?_⟩; have n0_ := Aside0.mk (KeepBut.blk hk (g' := gb211) (o := .cells #[.slice none 0 0, .slice none 0 0] 25 (0, 0)) (kX BK211.out) NB211_0.out (by simp)); have n1_ := Aside0.mk (Kd.R_mono (Kd.R_told (Kd.R_oldK (IsS76.apart (show IsS76 w0 _ g s0_0 t226 t227 from by repeat (first | (with_reducible first | exact HI0.out | apply IsS76.alloc | apply IsS76.drewN | apply IsS76.drew | apply IsS76.set_1 | apply IsS76.set_2 | refine IsS76.far ?_ NB0_211.out _) | exact HI0.out)) (rX HO225.out) (by decide)) hk) (Kd.R_base ho0)) (fun _ h_ => h_.1)); have n2_ := Aside0.mk (Kd.R_lower (Kd.R_new' ho0 (Kd.R_lt (rX HO225.out))) (keep_size (w := w) (g := g) (row := none) (by repeat (first | (with_reducible first | exact HK.out | apply KeepBut.set_ | apply keep_drewN | apply keep_drew | apply keep_alloc | refine keep_far ?_ GW211.out _) | exact HK.out)))); have n3_ := Aside0.mk (KeepBut.trans (by repeat (first | (with_reducible first | exact HK.out | apply KeepBut.set_ | apply keep_drewN | apply keep_drew | apply keep_alloc | refine keep_far ?_ GW211.out _) | exact HK.out)) hk (.inl rfl)); have n4_ := Aside0.mk (hb); have n5_ := Aside0.mk (hi); clear BK211 HO225 HK HB HI0; have BK211 := n0_; have HO225 := n1_; have HO230 := n2_; have HK := n3_; have HB := n4_; have HI0 := n5_; clear n0_ n1_ n2_ n3_ n4_ n5_; (try clear hb); (try clear hb2); (try clear hk); (try clear hi); (try clear ho0); obtain ⟨Ao25, co25, eo25⟩ := Kd.R_slice HO230.out; subst eo25; obtain ⟨Ao26, co26, eo26⟩ := Kd.R_slice HO225.out; subst eo26) | ((with_reducible refine gate_dst (N := 7) rfl ?_); refine box_event ?hg (N := 7) ?hd (cs := #[.slice none 0 0, .slice none 0 0]) (t := 25) ?hr ?_; (case hd => rfl); (case hg => rfl); (case hr => first | (go_simp; done) | (go_simp; rfl)); intro gb233 hg w27 hbox hb; have n0_ := Aside0.mk (Kd.R_below (rX HO225.out) hb); have n1_ := Aside0.mk (Kd.R_below (rX HO230.out) hb); have n2_ := Aside0.mk (bbX BK211.out hb); have n3_ := Aside0.mk (IsS76.below (by repeat (first | (with_reducible first | exact HI0.out | apply IsS76.alloc | apply IsS76.drewN | apply IsS76.drew | apply IsS76.set_1 | apply IsS76.set_2 | refine IsS76.far ?_ NB0_211.out _) | exact HI0.out)) hb); have n4_ := Aside0.mk (KeepBut.trans (by repeat (first | (with_reducible first | exact HK.out | apply KeepBut.set_ | apply keep_drewN | apply keep_drew | apply keep_alloc | refine keep_far ?_ GW211.out _) | exact HK.out)) (KeepBut.of_below hb g none) (.inl rfl)); have n5_ := Aside0.mk (below_step (bX2 HB.out (IsS76.ge HI0.out) GE211.out) hb); have n6_ := Aside0.mk (hbox); have n7_ := Aside0.mk ((by rw [hg]; exact (keep_size (w := w) (g := g) (row := none) (by repeat (first | (with_reducible first | exact HK.out | apply KeepBut.set_ | apply keep_drewN | apply keep_drew | apply keep_alloc | refine keep_far ?_ GW211.out _) | exact HK.out))) : w.heap.size ≤ gb233)); have n8_ := Aside0.mk ((Nat.le_trans HW0.out (by rw [hg]; exact (keep_size (w := w) (g := g) (row := none) (by repeat (first | (with_reducible first | exact HK.out | apply KeepBut.set_ | apply keep_drewN | apply keep_drew | apply keep_alloc | refine keep_far ?_ GW211.out _) | exact HK.out))) : w.heap.size ≤ gb233) : w0.heap.size ≤ gb233)); have n9_ := Aside0.mk (neX BK211.out hg); have n10_ := Aside0.mk (nfX BK211.out hg); have n11_ := Aside0.mk ((by rw [hg]; exact Nat.ne_of_lt (IsS76.lt (show IsS76 w0 _ g s0_0 t231 t232 from by repeat (first | (with_reducible first | exact HI0.out | apply IsS76.alloc | apply IsS76.drewN | apply IsS76.drew | apply IsS76.set_1 | apply IsS76.set_2 | refine IsS76.far ?_ NB0_211.out _) | exact HI0.out))) : g ≠ gb233)); have n12_ := Aside0.mk ((by rw [hg]; exact Nat.ne_of_gt (IsS76.lt (show IsS76 w0 _ g s0_0 t231 t232 from by repeat (first | (with_reducible first | exact HI0.out | apply IsS76.alloc | apply IsS76.drewN | apply IsS76.drew | apply IsS76.set_1 | apply IsS76.set_2 | refine IsS76.far ?_ NB0_211.out _) | exact HI0.out))) : gb233 ≠ g)); clear HO225 HO230 BK211 HI0 HK HB; have HO225 := n0_; have HO230 := n1_; have BK211 := n2_; have HI0 := n3_; have HK := n4_; have HB := n5_; have BK233 := n6_; have GW233 := n7_; have GE233 := n8_; have NB211_233 := n9_; have NB233_211 := n10_; have NB0_233 := n11_; have NB233_0 := n12_; clear n0_ n1_ n2_ n3_ n4_ n5_ n6_ n7_ n8_ n9_ n10_ n11_ n12_ hb hbox hg; have hnb28 := NB233_211.out; have hnc28 := NB211_233.out; have hnb29 := NB233_0.out; have hnc29 := NB0_233.out; have hcz30_0 := cz20 BK233.out; have hcz30_1 := cz21 BK233.out; have hfz30_0 := blk_frozen BK233.out 0; have hfz30_1 := blk_frozen BK233.out 1) | ((with_reducible refine gate_callee (f := 50) rfl ?_); refine goesL_ (some 26) rfl rfl Tryz.func50 (by kernel_rfl) rfl #[.agg #[.slice Ao26 t223.length co26, .slice Ao25 t228.length co25]] rfl aX ?_; (with_reducible refine (spec_SurfaceOk.calls k1 _ _ t223 _ _ t228 false _ ?side1 ?side2 ?side3 ?side4 A9.out).mono ?_); (case side1 => exact rcX (fr2 HO225.out BK233.out (.slice Ao26 t223.length co26) (.slice Ao25 t228.length co25))); (case side2 => exact (Kd.R_reads' HO225.out).2.1); (case side3 => exact rcX (fr2 HO230.out BK233.out (.slice Ao26 t223.length co26) (.slice Ao25 t228.length co25))); (case side4 => exact (Kd.R_reads' HO230.out).2.1); rintro e w31 ⟨rfl, hb⟩; refine ⟨_, rfl, ?_⟩; have n0_ := Aside0.mk (Kd.R_below (rX (fr2 HO225.out BK233.out (.slice Ao26 t223.length co26) (.slice Ao25 t228.length co25))) hb); have n1_ := Aside0.mk (Kd.R_below (rX (fr2 HO230.out BK233.out (.slice Ao26 t223.length co26) (.slice Ao25 t228.length co25))) hb); have n2_ := Aside0.mk (blk_below (g := gb211) (o := .cells #[.slice none 0 0, .slice none 0 0] 25 (0, 0)) (by (with_reducible repeat (first|refine kN ?_ _|refine kD ?_|refine kA ?_ _)); refine blk_far ?_ NB211_233.out _; (with_reducible repeat (first|refine kN ?_ _|refine kD ?_|refine kA ?_ _)); refine blk_far ?_ NB211_233.out _; (with_reducible repeat (first|refine kN ?_ _|refine kD ?_|refine kA ?_ _)); exact BK211.out) hb); have n3_ := Aside0.mk (IsS76.below (show IsS76 w0 ((w27.setCell ⟨gb233, 0, none⟩ (.slice Ao26 t223.length co26)).setCell ⟨gb233, 1, none⟩ (.slice Ao25 t228.length co25)) g s0_0 t231 t232 from by repeat (first | (with_reducible first | exact HI0.out | apply IsS76.alloc | apply IsS76.drewN | apply IsS76.drew | apply IsS76.set_1 | apply IsS76.set_2 | refine IsS76.far ?_ NB0_211.out _ | refine IsS76.far ?_ NB0_233.out _) | exact HI0.out)) hb); have n4_ := Aside0.mk (blk_below (g := gb233) (o := .cells #[.slice Ao26 t223.length co26, .slice Ao25 t228.length co25] 25 (0, 0)) (by (with_reducible repeat (first|refine kN ?_ _|refine kD ?_|refine kA ?_ _)); refine blk_put (cs := #[.slice Ao26 t223.length co26, .slice none 0 0]) ?_ 1 _ rfl; (with_reducible repeat (first|refine kN ?_ _|refine kD ?_|refine kA ?_ _)); refine blk_put (cs := #[.slice none 0 0, .slice none 0 0]) ?_ 0 _ rfl; (with_reducible repeat (first|refine kN ?_ _|refine kD ?_|refine kA ?_ _)); exact BK233.out) hb); have n5_ := Aside0.mk (KeepBut.trans (by repeat (first | (with_reducible first | exact HK.out | apply KeepBut.set_ | apply keep_drewN | apply keep_drew | apply keep_alloc | refine keep_far ?_ GW211.out _ | refine keep_far ?_ GW233.out _) | exact HK.out)) (KeepBut.of_below hb g none) (.inl rfl)); have n6_ := Aside0.mk (below_step (bX3 HB.out (IsS76.ge HI0.out) GE211.out GE233.out) hb); clear HO225 HO230 BK211 HI0 BK233 HK HB; have HO225 := n0_; have HO230 := n1_; have BK211 := n2_; have HI0 := n3_; have BK233 := n4_; have HK := n5_; have HB := n6_; clear n0_ n1_ n2_ n3_ n4_ n5_ n6_; (try clear hb); (try clear hb2); (try clear hk); (try clear hi)))
 go_roundg k1
 case measure => have := HK1.out; omega
 case rel => exact ⟨(wrap64 (x6_1 + 1)), (t231), (t232), vX, H', ⟨by have := HK1.out; omega⟩, ⟨kX BK211.out⟩, ⟨by repeat (first | (with_reducible first | exact HI0.out | apply IsS76.alloc | apply IsS76.drewN | apply IsS76.drew | apply IsS76.set_1 | apply IsS76.set_2 | refine IsS76.far ?_ NB0_211.out _ | refine IsS76.far ?_ NB0_233.out _) | exact HI0.out)⟩, ⟨by repeat (first | (with_reducible first | exact HK.out | apply KeepBut.set_ | apply keep_drewN | apply keep_drew | apply keep_alloc | refine keep_far ?_ GW211.out _ | refine keep_far ?_ GW233.out _) | exact HK.out)⟩, ⟨bX3 HB.out (IsS76.ge HI0.out) GE211.out GE233.out⟩⟩
 }
 }
 {
 rw [if_neg c6] at H
 have c6b0 : decide (x6_1 < 8) = false := decide_eq_false c6
 clear c6
 replace H := Option.bind_eq_some_iff.mp H
 obtain ⟨⟨t215, t218, t221⟩, A320, H⟩ := H
 replace H : (some (t215, t218, x1001_1, x1002_1)) = some (r1, r2, r3, r4) := H
 have A32 := Aside0.mk A320
 clear A320
 simp only [Option.some.injEq, Prod.mk.injEq] at H
 obtain ⟨rfl, rfl, rfl, rfl⟩ := H
 go_wp2_with (first | ((with_reducible refine gate_callee (f := 29) rfl ?_); refine goesL_ (some 30) rfl rfl Tryz.func29 (by kernel_rfl) rfl #[.int .i64 (wrap64 (1 + t212)), .int .i64 1] rfl aX ?_; (with_reducible refine (spec_EllOf.calls k1 (wrap64 (1 + t212)) 1 t215 t218 t221 _ A32.out).mono ?_); rintro e w33 ⟨v216, v219, rfl, ho0, ho1, hb⟩; refine ⟨_, rfl, ?_⟩; have n0_ := Aside0.mk (Kd.R_lower ho0 (keep_size (w := w) (g := g) (row := none) (by repeat (first | (with_reducible first | exact HK.out | apply KeepBut.set_ | apply keep_drewN | apply keep_drew | apply keep_alloc | refine keep_far ?_ GW211.out _) | exact HK.out)))); have n1_ := Aside0.mk (Kd.R_lower ho1 (keep_size (w := w) (g := g) (row := none) (by repeat (first | (with_reducible first | exact HK.out | apply KeepBut.set_ | apply keep_drewN | apply keep_drew | apply keep_alloc | refine keep_far ?_ GW211.out _) | exact HK.out)))); have n2_ := Aside0.mk (bbX BK211.out hb); have n3_ := Aside0.mk (IsS76.below (by repeat (first | (with_reducible first | exact HI0.out | apply IsS76.alloc | apply IsS76.drewN | apply IsS76.drew | apply IsS76.set_1 | apply IsS76.set_2 | refine IsS76.far ?_ NB0_211.out _) | exact HI0.out)) hb); have n4_ := Aside0.mk (KeepBut.trans (by repeat (first | (with_reducible first | exact HK.out | apply KeepBut.set_ | apply keep_drewN | apply keep_drew | apply keep_alloc | refine keep_far ?_ GW211.out _) | exact HK.out)) (KeepBut.of_below hb g none) (.inl rfl)); have n5_ := Aside0.mk (below_step (bX2 HB.out (IsS76.ge HI0.out) GE211.out) hb); clear BK211 HI0 HK HB; have HO217 := n0_; have HO220 := n1_; have BK211 := n2_; have HI0 := n3_; have HK := n4_; have HB := n5_; clear n0_ n1_ n2_ n3_ n4_ n5_; (try clear hb); (try clear hb2); (try clear hk); (try clear hi); (try clear ho0); (try clear ho1)) | ((with_reducible refine gate_dst (N := 8) rfl ?_); refine box_event ?hg (N := 8) ?hd (cs := #[.slice none 0 0, .slice none 0 0]) (t := 25) ?hr ?_; (case hd => rfl); (case hg => rfl); (case hr => first | (go_simp; done) | (go_simp; rfl)); intro gb222 hg w34 hbox hb; have n0_ := Aside0.mk (Kd.R_below (rX HO217.out) hb); have n1_ := Aside0.mk (Kd.R_below (rX HO220.out) hb); have n2_ := Aside0.mk (bbX BK211.out hb); have n3_ := Aside0.mk (IsS76.below (by repeat (first | (with_reducible first | exact HI0.out | apply IsS76.alloc | apply IsS76.drewN | apply IsS76.drew | apply IsS76.set_1 | apply IsS76.set_2 | refine IsS76.far ?_ NB0_211.out _) | exact HI0.out)) hb); have n4_ := Aside0.mk (KeepBut.trans (by repeat (first | (with_reducible first | exact HK.out | apply KeepBut.set_ | apply keep_drewN | apply keep_drew | apply keep_alloc | refine keep_far ?_ GW211.out _) | exact HK.out)) (KeepBut.of_below hb g none) (.inl rfl)); have n5_ := Aside0.mk (below_step (bX2 HB.out (IsS76.ge HI0.out) GE211.out) hb); have n6_ := Aside0.mk (hbox); have n7_ := Aside0.mk ((by rw [hg]; exact (keep_size (w := w) (g := g) (row := none) (by repeat (first | (with_reducible first | exact HK.out | apply KeepBut.set_ | apply keep_drewN | apply keep_drew | apply keep_alloc | refine keep_far ?_ GW211.out _) | exact HK.out))) : w.heap.size ≤ gb222)); have n8_ := Aside0.mk ((Nat.le_trans HW0.out (by rw [hg]; exact (keep_size (w := w) (g := g) (row := none) (by repeat (first | (with_reducible first | exact HK.out | apply KeepBut.set_ | apply keep_drewN | apply keep_drew | apply keep_alloc | refine keep_far ?_ GW211.out _) | exact HK.out))) : w.heap.size ≤ gb222) : w0.heap.size ≤ gb222)); have n9_ := Aside0.mk (neX BK211.out hg); have n10_ := Aside0.mk (nfX BK211.out hg); have n11_ := Aside0.mk ((by rw [hg]; exact Nat.ne_of_lt (IsS76.lt (show IsS76 w0 _ g s0_0 x1001_1 x1002_1 from by repeat (first | (with_reducible first | exact HI0.out | apply IsS76.alloc | apply IsS76.drewN | apply IsS76.drew | apply IsS76.set_1 | apply IsS76.set_2 | refine IsS76.far ?_ NB0_211.out _) | exact HI0.out))) : g ≠ gb222)); have n12_ := Aside0.mk ((by rw [hg]; exact Nat.ne_of_gt (IsS76.lt (show IsS76 w0 _ g s0_0 x1001_1 x1002_1 from by repeat (first | (with_reducible first | exact HI0.out | apply IsS76.alloc | apply IsS76.drewN | apply IsS76.drew | apply IsS76.set_1 | apply IsS76.set_2 | refine IsS76.far ?_ NB0_211.out _) | exact HI0.out))) : gb222 ≠ g)); clear HO217 HO220 BK211 HI0 HK HB; have HO217 := n0_; have HO220 := n1_; have BK211 := n2_; have HI0 := n3_; have HK := n4_; have HB := n5_; have BK222 := n6_; have GW222 := n7_; have GE222 := n8_; have NB211_222 := n9_; have NB222_211 := n10_; have NB0_222 := n11_; have NB222_0 := n12_; clear n0_ n1_ n2_ n3_ n4_ n5_ n6_ n7_ n8_ n9_ n10_ n11_ n12_ hb hbox hg; obtain ⟨Ao35, co35, eo35⟩ := Kd.R_slice HO217.out; subst eo35; have hnb36 := NB222_211.out; have hnc36 := NB211_222.out; have hnb37 := NB222_0.out; have hnc37 := NB0_222.out; have hcz38_0 : w34.cell? ⟨gb222, 0, none⟩ = some (.slice none 0 0) := (blk_cell BK222.out 0).trans rfl; have hcz38_1 : w34.cell? ⟨gb222, 1, none⟩ = some (.slice none 0 0) := (blk_cell BK222.out 1).trans rfl; have hfz38_0 := blk_frozen BK222.out 0; have hfz38_1 := blk_frozen BK222.out 1; obtain ⟨Ao39, co39, eo39⟩ := Kd.R_slice HO220.out; subst eo39; have hnb40 := NB211_0.out; have hnc40 := NB0_211.out; have hcz41_0 := cz20 BK211.out; have hcz41_1 := cz21 BK211.out; have hfz41_0 := blk_frozen BK211.out 0; have hfz41_1 := blk_frozen BK211.out 1))
 refine bodyPost_ret (results_cell_row rfl _ _ gb211 25 #[.slice Ao35 t215.length co35, .slice Ao39 t218.length co39] (0, 0) _ rfl (by (with_reducible repeat (first|refine kN ?_ _|refine kD ?_|refine kA ?_ _)); refine blk_put (cs := #[.slice Ao35 t215.length co35, .slice none 0 0]) ?_ 1 _ rfl; (with_reducible repeat (first|refine kN ?_ _|refine kD ?_|refine kA ?_ _)); refine blk_put (cs := #[.slice none 0 0, .slice none 0 0]) ?_ 0 _ rfl; (with_reducible repeat (first|refine kN ?_ _|refine kD ?_|refine kA ?_ _)); refine blk_far ?_ NB211_222.out _; (with_reducible repeat (first|refine kN ?_ _|refine kD ?_|refine kA ?_ _)); refine blk_far ?_ NB211_222.out _; (with_reducible repeat (first|refine kN ?_ _|refine kD ?_|refine kA ?_ _)); exact BK211.out) Tryz.underlying25 rfl (by kernel_rfl)) rfl ?_
 exact ⟨_, _, eX, by (with_reducible repeat (first|apply rA|apply rN|apply rD)); exact Kd.R_mono (Kd.R_far (p := ⟨gb211, 1, none⟩) (Kd.R_far (p := ⟨gb211, 0, none⟩) (Kd.R_far (p := ⟨gb222, 1, none⟩) (Kd.R_far (p := ⟨gb222, 0, none⟩) (Kd.R_types (Kd.R_types HO217.out BK222.out (by decide)) BK211.out (by decide)) (fun _ hk => hk.1.2) (.slice Ao35 t215.length co35)) (fun _ hk => hk.1.2) (.slice Ao39 t218.length co39)) (fun _ hk => hk.2) (.slice Ao35 t215.length co35)) (fun _ hk => hk.2) (.slice Ao39 t218.length co39)) (fun _ hk => hk.1.1), by (with_reducible repeat (first|apply rA|apply rN|apply rD)); exact Kd.R_mono (Kd.R_far (p := ⟨gb211, 1, none⟩) (Kd.R_far (p := ⟨gb211, 0, none⟩) (Kd.R_far (p := ⟨gb222, 1, none⟩) (Kd.R_far (p := ⟨gb222, 0, none⟩) (Kd.R_types (Kd.R_types HO220.out BK222.out (by decide)) BK211.out (by decide)) (fun _ hk => hk.1.2) (.slice Ao35 t215.length co35)) (fun _ hk => hk.1.2) (.slice Ao39 t218.length co39)) (fun _ hk => hk.2) (.slice Ao35 t215.length co35)) (fun _ hk => hk.2) (.slice Ao39 t218.length co39)) (fun _ hk => hk.1.1), by repeat (first | (with_reducible first | exact HI0.out | apply IsS76.alloc | apply IsS76.drewN | apply IsS76.drew | apply IsS76.set_1 | apply IsS76.set_2 | refine IsS76.far ?_ NB0_211.out _ | refine IsS76.far ?_ NB0_222.out _) | exact HI0.out), bX3 HB.out (IsS76.ge HI0.out) GE211.out GE222.out, by repeat (first | (with_reducible first | exact HK.out | apply KeepBut.set_ | apply keep_drewN | apply keep_drew | apply keep_alloc | refine keep_far ?_ GW211.out _ | refine keep_far ?_ GW222.out _) | exact HK.out)⟩
 }

/-! ### spec_MakeSurface: function 6 -/
def spec_MakeSurface.l0 : Nat → Int → List Int → List Int → Option (List Int × List Int)
 | 0, _, _, _ => none
 | k + 1, x6, x257000, x257001 => if x6 > 0 then ((spec_l05Shear.f k x257000 x257001).bind fun bt260 => (spec_MakeSurface.l0 k (wrap64 (x6 - 1)) bt260.1 bt260.2)) else (some (x257000, x257001))
def spec_MakeSurface.f (k : Nat) (l0 : List Int) : Option (List Int × List Int) := (spec_l01New.f k l0).bind fun bt236 => ((spec_l01Below.f bt236.1 bt236.2.1 bt236.2.2 4).bind fun bt240 => (if bt240.1 = 0 then ((spec_l01Below.f bt236.1 bt240.2.1 bt240.2.2 4).bind fun bt243 => ((spec_l01Below.f bt236.1 bt243.2.1 bt243.2.2 3).bind fun bt246 => ((spec_TorusOf.f k (wrap64 (1 + bt243.1)) (wrap64 (1 + bt246.1))).bind fun bt249 => ((spec_l01Below.f bt236.1 bt246.2.1 bt246.2.2 4).bind fun bt257 => (spec_MakeSurface.l0 k bt257.1 bt249.1 bt249.2.1))))) else (if bt240.1 = 1 then ((spec_l01Below.f bt236.1 bt240.2.1 bt240.2.2 4).bind fun bt266 => ((spec_l01Below.f bt236.1 bt266.2.1 bt266.2.2 4).bind fun bt269 => ((spec_EllOf.f k (wrap64 (1 + bt266.1)) (wrap64 (1 + bt269.1))).bind fun bt272 => (some (bt272.1, bt272.2.1))))) else ((spec_l03Draw.f k bt236.1 bt240.2.1 bt240.2.2 5).bind fun bt280 => (some (bt280.1, bt280.2.1))))))
set_option maxHeartbeats 8000000 in
set_option maxRecDepth 100000 in
theorem spec_MakeSurface.calls (k : Nat) (A0 : Option Addr) (c0 : Nat) (l0 : List Int) (r1 : List Int) (r2 : List Int) (w : World) (hr0 : Kd.C (Kd.int .u8) w A0 l0.length l0) (hc0 : l0.length ≤ c0) (h : spec_MakeSurface.f k l0 = some (r1, r2)) :
  Calls Tryz.prog 6 #[.slice A0 l0.length c0] w fun e w' => ∃ v0_ v1_ : Value, e = .returned (.agg #[v0_, v1_]) ∧ Kd.R (Kd.int .i64) 3 w' w.heap.size (fun k_ => some k_ ≠ (v1_ : Value).ownBlock) v0_ r1 ∧ Kd.R (Kd.int .i64) 3 w' w.heap.size (fun k_ => some k_ ≠ (v0_ : Value).ownBlock) v1_ r2 ∧ Below w.heap.size w w' := by
 have hu25 := Tryz.underlying25
 have HR0 := Aside0.mk hr0
 have HC0 := Aside0.mk hc0
 clear hr0 hc0
 have HB := Aside0.mk (Below.refl w.heap.size w)
 have H : ((spec_l01New.f k l0).bind fun bt236 => ((spec_l01Below.f bt236.1 bt236.2.1 bt236.2.2 4).bind fun bt240 => (if bt240.1 = 0 then ((spec_l01Below.f bt236.1 bt240.2.1 bt240.2.2 4).bind fun bt243 => ((spec_l01Below.f bt236.1 bt243.2.1 bt243.2.2 3).bind fun bt246 => ((spec_TorusOf.f k (wrap64 (1 + bt243.1)) (wrap64 (1 + bt246.1))).bind fun bt249 => ((spec_l01Below.f bt236.1 bt246.2.1 bt246.2.2 4).bind fun bt257 => (spec_MakeSurface.l0 k bt257.1 bt249.1 bt249.2.1))))) else (if bt240.1 = 1 then ((spec_l01Below.f bt236.1 bt240.2.1 bt240.2.2 4).bind fun bt266 => ((spec_l01Below.f bt236.1 bt266.2.1 bt266.2.2 4).bind fun bt269 => ((spec_EllOf.f k (wrap64 (1 + bt266.1)) (wrap64 (1 + bt269.1))).bind fun bt272 => (some (bt272.1, bt272.2.1))))) else ((spec_l03Draw.f k bt236.1 bt240.2.1 bt240.2.2 5).bind fun bt280 => (some (bt280.1, bt280.2.1))))))) = some (r1, r2) := h
 clear h
 replace H := Option.bind_eq_some_iff.mp H
 obtain ⟨⟨t236, t237, t238⟩, A20, H⟩ := H
 replace H : ((spec_l01Below.f t236 t237 t238 4).bind fun bt240 => (if bt240.1 = 0 then ((spec_l01Below.f t236 bt240.2.1 bt240.2.2 4).bind fun bt243 => ((spec_l01Below.f t236 bt243.2.1 bt243.2.2 3).bind fun bt246 => ((spec_TorusOf.f k (wrap64 (1 + bt243.1)) (wrap64 (1 + bt246.1))).bind fun bt249 => ((spec_l01Below.f t236 bt246.2.1 bt246.2.2 4).bind fun bt257 => (spec_MakeSurface.l0 k bt257.1 bt249.1 bt249.2.1))))) else (if bt240.1 = 1 then ((spec_l01Below.f t236 bt240.2.1 bt240.2.2 4).bind fun bt266 => ((spec_l01Below.f t236 bt266.2.1 bt266.2.2 4).bind fun bt269 => ((spec_EllOf.f k (wrap64 (1 + bt266.1)) (wrap64 (1 + bt269.1))).bind fun bt272 => (some (bt272.1, bt272.2.1))))) else ((spec_l03Draw.f k t236 bt240.2.1 bt240.2.2 5).bind fun bt280 => (some (bt280.1, bt280.2.1)))))) = some (r1, r2) := H
 have A2 := Aside0.mk A20
 clear A20
 replace H := Option.bind_eq_some_iff.mp H
 obtain ⟨⟨t240, t241, t242⟩, A30, H⟩ := H
 replace H : (if t240 = 0 then ((spec_l01Below.f t236 t241 t242 4).bind fun bt243 => ((spec_l01Below.f t236 bt243.2.1 bt243.2.2 3).bind fun bt246 => ((spec_TorusOf.f k (wrap64 (1 + bt243.1)) (wrap64 (1 + bt246.1))).bind fun bt249 => ((spec_l01Below.f t236 bt246.2.1 bt246.2.2 4).bind fun bt257 => (spec_MakeSurface.l0 k bt257.1 bt249.1 bt249.2.1))))) else (if t240 = 1 then ((spec_l01Below.f t236 t241 t242 4).bind fun bt266 => ((spec_l01Below.f t236 bt266.2.1 bt266.2.2 4).bind fun bt269 => ((spec_EllOf.f k (wrap64 (1 + bt266.1)) (wrap64 (1 + bt269.1))).bind fun bt272 => (some (bt272.1, bt272.2.1))))) else ((spec_l03Draw.f k t236 t241 t242 5).bind fun bt280 => (some (bt280.1, bt280.2.1))))) = some (r1, r2) := H
 have A3 := Aside0.mk A30
 clear A30
 by_cases c4 : t240 = 0
 {
 rw [if_pos c4] at H
 have c4b0 : (t240 == 0) = true := beq_iff_eq.mpr c4
 have c4b1 : (t240 != 0) = false := bne_eq_false_iff_eq.mpr c4
 clear c4
 replace H := Option.bind_eq_some_iff.mp H
 obtain ⟨⟨t243, t244, t245⟩, A50, H⟩ := H
 replace H : ((spec_l01Below.f t236 t244 t245 3).bind fun bt246 => ((spec_TorusOf.f k (wrap64 (1 + t243)) (wrap64 (1 + bt246.1))).bind fun bt249 => ((spec_l01Below.f t236 bt246.2.1 bt246.2.2 4).bind fun bt257 => (spec_MakeSurface.l0 k bt257.1 bt249.1 bt249.2.1)))) = some (r1, r2) := H
 have A5 := Aside0.mk A50
 clear A50
 replace H := Option.bind_eq_some_iff.mp H
 obtain ⟨⟨t246, t247, t248⟩, A60, H⟩ := H
 replace H : ((spec_TorusOf.f k (wrap64 (1 + t243)) (wrap64 (1 + t246))).bind fun bt249 => ((spec_l01Below.f t236 t247 t248 4).bind fun bt257 => (spec_MakeSurface.l0 k bt257.1 bt249.1 bt249.2.1))) = some (r1, r2) := H
 have A6 := Aside0.mk A60
 clear A60
 replace H := Option.bind_eq_some_iff.mp H
 obtain ⟨⟨t249, t252, t255⟩, A70, H⟩ := H
 replace H : ((spec_l01Below.f t236 t247 t248 4).bind fun bt257 => (spec_MakeSurface.l0 k bt257.1 t249 t252)) = some (r1, r2) := H
 have A7 := Aside0.mk A70
 clear A70
 replace H := Option.bind_eq_some_iff.mp H
 obtain ⟨⟨t257, t258, t259⟩, A80, H⟩ := H
 replace H : (spec_MakeSurface.l0 k t257 t249 t252) = some (r1, r2) := H
 have A8 := Aside0.mk A80
 clear A80
 have H' := Aside0.mk H
 clear H
 go_enter Tryz.func6, Tryz.ntmps6
 go_wp2_with (first | ((with_reducible refine gate_dst (N := 2) rfl ?_); refine box_event ?hg (N := 2) ?hd (cs := #[.slice none 0 0, .slice none 0 0]) (t := 25) ?hr ?_; (case hd => rfl); (case hg => rfl); (case hr => first | (go_simp; done) | (go_simp; rfl)); intro gb235 hg w9 hbox hb; have n0_ := Aside0.mk (below_step (bX HB.out) hb); have n1_ := Aside0.mk (hbox); have n2_ := Aside0.mk ((szX (below_size (bX HB.out)) hg : w.heap.size ≤ gb235)); have n3_ := Aside0.mk ((szX (below_size (bX HB.out)) hg : w.heap.size ≤ gb235)); clear HB; have HB := n0_; have BK235 := n1_; have GW235 := n2_; have GE235 := n3_; clear n0_ n1_ n2_ n3_ hb hbox hg) | ((with_reducible refine gate_callee (f := 25) rfl ?_); refine goesL_ (some 10) rfl rfl Tryz.func25 (by kernel_rfl) rfl #[.slice A0 l0.length c0] rfl aX ?_; (with_reducible refine (spec_l01New.calls k _ _ l0 t236 t237 t238 w _ ?side1 ?side2 ?side3 A2.out).mono ?_); (case side1 => repeat (first | (with_reducible first | exact HB.out|apply bA|apply bN|apply bD | refine below_set ?_ GE235.out) | exact HB.out)); (case side2 => exact HR0.out); (case side3 => exact HC0.out); rintro e w10 ⟨g239, rfl, hi, hb, hb2⟩; refine ⟨_, rfl, ?_⟩; have n0_ := Aside0.mk (bbX BK235.out hb2); have n1_ := Aside0.mk (hb); have n2_ := Aside0.mk (hi); have n3_ := Aside0.mk (IsS76.ne_blk hi (bbX BK235.out hb2) (by decide)); have n4_ := Aside0.mk (Ne.symm (IsS76.ne_blk hi (bbX BK235.out hb2) (by decide))); clear BK235 HB; have BK235 := n0_; have HB := n1_; have HI239 := n2_; have NB239_235 := n3_; have NB235_239 := n4_; clear n0_ n1_ n2_ n3_ n4_; (try clear hb); (try clear hb2); (try clear hk); (try clear hi)) | ((with_reducible refine gate_callee (f := 26) rfl ?_); refine goesL_ (some 12) rfl rfl Tryz.func26 (by kernel_rfl) rfl #[.pointer (some ⟨g239, 0, none⟩), .int .i64 4] rfl aX ?_; (with_reducible refine (spec_l01Below.calls g239 t236 t237 t238 4 t240 t241 t242 w _ ?side1 ?side2 A3.out).mono ?_); (case side1 => repeat (first | (with_reducible first | exact HI239.out | apply IsS76.alloc | apply IsS76.drewN | apply IsS76.drew | apply IsS76.set_1 | apply IsS76.set_2 | refine IsS76.far ?_ NB239_235.out _) | exact HI239.out)); (case side2 => repeat (first | (with_reducible first | exact HB.out|apply bA|apply bN|apply bD | refine below_set ?_ (IsS76.ge HI239.out) | refine below_set ?_ GE235.out) | exact HB.out)); rintro e w11 ⟨rfl, hi, hb, hk⟩; refine ⟨_, rfl, ?_⟩; have n0_ := Aside0.mk (KeepBut.blk hk (g' := gb235) (o := .cells #[.slice none 0 0, .slice none 0 0] 25 (0, 0)) (kX BK235.out) NB235_239.out (by simp)); have n1_ := Aside0.mk (hb); have n2_ := Aside0.mk (hi); clear BK235 HB HI239; have BK235 := n0_; have HB := n1_; have HI239 := n2_; clear n0_ n1_ n2_; (try clear hb); (try clear hb2); (try clear hk); (try clear hi)) | ((with_reducible refine gate_callee (f := 26) rfl ?_); refine goesL_ (some 17) rfl rfl Tryz.func26 (by kernel_rfl) rfl #[.pointer (some ⟨g239, 0, none⟩), .int .i64 4] rfl aX ?_; (with_reducible refine (spec_l01Below.calls g239 t236 t241 t242 4 t243 t244 t245 w _ ?side1 ?side2 A5.out).mono ?_); (case side1 => repeat (first | (with_reducible first | exact HI239.out | apply IsS76.alloc | apply IsS76.drewN | apply IsS76.drew | apply IsS76.set_1 | apply IsS76.set_2 | refine IsS76.far ?_ NB239_235.out _) | exact HI239.out)); (case side2 => repeat (first | (with_reducible first | exact HB.out|apply bA|apply bN|apply bD | refine below_set ?_ (IsS76.ge HI239.out) | refine below_set ?_ GE235.out) | exact HB.out)); rintro e w12 ⟨rfl, hi, hb, hk⟩; refine ⟨_, rfl, ?_⟩; have n0_ := Aside0.mk (KeepBut.blk hk (g' := gb235) (o := .cells #[.slice none 0 0, .slice none 0 0] 25 (0, 0)) (kX BK235.out) NB235_239.out (by simp)); have n1_ := Aside0.mk (hb); have n2_ := Aside0.mk (hi); clear BK235 HB HI239; have BK235 := n0_; have HB := n1_; have HI239 := n2_; clear n0_ n1_ n2_; (try clear hb); (try clear hb2); (try clear hk); (try clear hi)) | ((with_reducible refine gate_callee (f := 26) rfl ?_); refine goesL_ (some 20) rfl rfl Tryz.func26 (by kernel_rfl) rfl #[.pointer (some ⟨g239, 0, none⟩), .int .i64 3] rfl aX ?_; (with_reducible refine (spec_l01Below.calls g239 t236 t244 t245 3 t246 t247 t248 w _ ?side1 ?side2 A6.out).mono ?_); (case side1 => repeat (first | (with_reducible first | exact HI239.out | apply IsS76.alloc | apply IsS76.drewN | apply IsS76.drew | apply IsS76.set_1 | apply IsS76.set_2 | refine IsS76.far ?_ NB239_235.out _) | exact HI239.out)); (case side2 => repeat (first | (with_reducible first | exact HB.out|apply bA|apply bN|apply bD | refine below_set ?_ (IsS76.ge HI239.out) | refine below_set ?_ GE235.out) | exact HB.out)); rintro e w13 ⟨rfl, hi, hb, hk⟩; refine ⟨_, rfl, ?_⟩; have n0_ := Aside0.mk (KeepBut.blk hk (g' := gb235) (o := .cells #[.slice none 0 0, .slice none 0 0] 25 (0, 0)) (kX BK235.out) NB235_239.out (by simp)); have n1_ := Aside0.mk (hb); have n2_ := Aside0.mk (hi); clear BK235 HB HI239; have BK235 := n0_; have HB := n1_; have HI239 := n2_; clear n0_ n1_ n2_; (try clear hb); (try clear hb2); (try clear hk); (try clear hi)) | ((with_reducible refine gate_callee (f := 27) rfl ?_); refine goesL_ (some 22) rfl rfl Tryz.func27 (by kernel_rfl) rfl #[.int .i64 (wrap64 (1 + t243)), .int .i64 (wrap64 (1 + t246))] rfl aX ?_; (with_reducible refine (spec_TorusOf.calls k (wrap64 (1 + t243)) (wrap64 (1 + t246)) t249 t252 t255 _ A7.out).mono ?_); rintro e w14 ⟨v250, v253, rfl, ho0, ho1, hb⟩; refine ⟨_, rfl, ?_⟩; have n0_ := Aside0.mk (Kd.R_lower ho0 (below_size (bX2 HB.out (IsS76.ge HI239.out) GE235.out))); have n1_ := Aside0.mk (Kd.R_lower ho1 (below_size (bX2 HB.out (IsS76.ge HI239.out) GE235.out))); have n2_ := Aside0.mk (bbX BK235.out hb); have n3_ := Aside0.mk (IsS76.below (by repeat (first | (with_reducible first | exact HI239.out | apply IsS76.alloc | apply IsS76.drewN | apply IsS76.drew | apply IsS76.set_1 | apply IsS76.set_2 | refine IsS76.far ?_ NB239_235.out _) | exact HI239.out)) hb); have n4_ := Aside0.mk (below_step (bX2 HB.out (IsS76.ge HI239.out) GE235.out) hb); clear BK235 HI239 HB; have HO251 := n0_; have HO254 := n1_; have BK235 := n2_; have HI239 := n3_; have HB := n4_; clear n0_ n1_ n2_ n3_ n4_; (try clear hb); (try clear hb2); (try clear hk); (try clear hi); (try clear ho0); (try clear ho1)) | ((with_reducible refine gate_dst (N := 4) rfl ?_); refine box_event ?hg (N := 4) ?hd (cs := #[.slice none 0 0, .slice none 0 0]) (t := 25) ?hr ?_; (case hd => rfl); (case hg => rfl); (case hr => first | (go_simp; done) | (go_simp; rfl)); intro gb256 hg w15 hbox hb; have n0_ := Aside0.mk (Kd.R_below (rX HO251.out) hb); have n1_ := Aside0.mk (Kd.R_below (rX HO254.out) hb); have n2_ := Aside0.mk (bbX BK235.out hb); have n3_ := Aside0.mk (IsS76.below (by repeat (first | (with_reducible first | exact HI239.out | apply IsS76.alloc | apply IsS76.drewN | apply IsS76.drew | apply IsS76.set_1 | apply IsS76.set_2 | refine IsS76.far ?_ NB239_235.out _) | exact HI239.out)) hb); have n4_ := Aside0.mk (below_step (bX2 HB.out (IsS76.ge HI239.out) GE235.out) hb); have n5_ := Aside0.mk (hbox); have n6_ := Aside0.mk ((szX (below_size (bX2 HB.out (IsS76.ge HI239.out) GE235.out)) hg : w.heap.size ≤ gb256)); have n7_ := Aside0.mk ((szX (below_size (bX2 HB.out (IsS76.ge HI239.out) GE235.out)) hg : w.heap.size ≤ gb256)); have n8_ := Aside0.mk (neX BK235.out hg); have n9_ := Aside0.mk (nfX BK235.out hg); have n10_ := Aside0.mk ((by rw [hg]; exact Nat.ne_of_lt (IsS76.lt (show IsS76 w _ g239 t236 t247 t248 from by repeat (first | (with_reducible first | exact HI239.out | apply IsS76.alloc | apply IsS76.drewN | apply IsS76.drew | apply IsS76.set_1 | apply IsS76.set_2 | refine IsS76.far ?_ NB239_235.out _) | exact HI239.out))) : g239 ≠ gb256)); have n11_ := Aside0.mk ((by rw [hg]; exact Nat.ne_of_gt (IsS76.lt (show IsS76 w _ g239 t236 t247 t248 from by repeat (first | (with_reducible first | exact HI239.out | apply IsS76.alloc | apply IsS76.drewN | apply IsS76.drew | apply IsS76.set_1 | apply IsS76.set_2 | refine IsS76.far ?_ NB239_235.out _) | exact HI239.out))) : gb256 ≠ g239)); clear HO251 HO254 BK235 HI239 HB; have HO251 := n0_; have HO254 := n1_; have BK235 := n2_; have HI239 := n3_; have HB := n4_; have BK256 := n5_; have GW256 := n6_; have GE256 := n7_; have NB235_256 := n8_; have NB256_235 := n9_; have NB239_256 := n10_; have NB256_239 := n11_; clear n0_ n1_ n2_ n3_ n4_ n5_ n6_ n7_ n8_ n9_ n10_ n11_ hb hbox hg; obtain ⟨Ao16, co16, eo16⟩ := Kd.R_slice HO251.out; subst eo16; have hnb17 := NB256_235.out; have hnc17 := NB235_256.out; have hnb18 := NB256_239.out; have hnc18 := NB239_256.out; have hcz19_0 := cz20 BK256.out; have hcz19_1 := cz21 BK256.out; have hfz19_0 := blk_frozen BK256.out 0; have hfz19_1 := blk_frozen BK256.out 1; obtain ⟨Ao20, co20, eo20⟩ := Kd.R_slice HO254.out; subst eo20) | ((with_reducible refine gate_callee (f := 26) rfl ?_); refine goesL_ (some 26) rfl rfl Tryz.func26 (by kernel_rfl) rfl #[.pointer (some ⟨g239, 0, none⟩), .int .i64 4] rfl aX ?_; (with_reducible refine (spec_l01Below.calls g239 t236 t247 t248 4 t257 t258 t259 w _ ?side1 ?side2 A8.out).mono ?_); (case side1 => repeat (first | (with_reducible first | exact HI239.out | apply IsS76.alloc | apply IsS76.drewN | apply IsS76.drew | apply IsS76.set_1 | apply IsS76.set_2 | refine IsS76.far ?_ NB239_235.out _ | refine IsS76.far ?_ NB239_256.out _) | exact HI239.out)); (case side2 => repeat (first | (with_reducible first | exact HB.out|apply bA|apply bN|apply bD | refine below_set ?_ (IsS76.ge HI239.out) | refine below_set ?_ GE235.out | refine below_set ?_ GE256.out) | exact HB.out)); rintro e w21 ⟨rfl, hi, hb, hk⟩; refine ⟨_, rfl, ?_⟩; have n0_ := Aside0.mk (KeepBut.blk hk (g' := gb235) (o := .cells #[.slice none 0 0, .slice none 0 0] 25 (0, 0)) (by (with_reducible repeat (first|refine kN ?_ _|refine kD ?_|refine kA ?_ _)); refine blk_far ?_ NB235_256.out _; (with_reducible repeat (first|refine kN ?_ _|refine kD ?_|refine kA ?_ _)); refine blk_far ?_ NB235_256.out _; (with_reducible repeat (first|refine kN ?_ _|refine kD ?_|refine kA ?_ _)); exact BK235.out) NB235_239.out (by simp)); have n1_ := Aside0.mk (Kd.R_mono (Kd.R_keep (IsS76.apart (show IsS76 w _ g239 t236 t247 t248 from by repeat (first | (with_reducible first | exact HI239.out | apply IsS76.alloc | apply IsS76.drewN | apply IsS76.drew | apply IsS76.set_1 | apply IsS76.set_2 | refine IsS76.far ?_ NB239_235.out _ | refine IsS76.far ?_ NB239_256.out _) | exact HI239.out)) (rX (fr2 HO251.out BK256.out (.slice Ao16 t249.length co16) (.slice Ao20 t252.length co20))) (by decide)) hk (fun _ h => h.2)) (fun _ h => h.1)); have n2_ := Aside0.mk (Kd.R_mono (Kd.R_keep (IsS76.apart (show IsS76 w _ g239 t236 t247 t248 from by repeat (first | (with_reducible first | exact HI239.out | apply IsS76.alloc | apply IsS76.drewN | apply IsS76.drew | apply IsS76.set_1 | apply IsS76.set_2 | refine IsS76.far ?_ NB239_235.out _ | refine IsS76.far ?_ NB239_256.out _) | exact HI239.out)) (rX (fr2 HO254.out BK256.out (.slice Ao16 t249.length co16) (.slice Ao20 t252.length co20))) (by decide)) hk (fun _ h => h.2)) (fun _ h => h.1)); have n3_ := Aside0.mk (KeepBut.blk hk (g' := gb256) (o := .cells #[.slice Ao16 t249.length co16, .slice Ao20 t252.length co20] 25 (0, 0)) (by (with_reducible repeat (first|refine kN ?_ _|refine kD ?_|refine kA ?_ _)); refine blk_put (cs := #[.slice Ao16 t249.length co16, .slice none 0 0]) ?_ 1 _ rfl; (with_reducible repeat (first|refine kN ?_ _|refine kD ?_|refine kA ?_ _)); refine blk_put (cs := #[.slice none 0 0, .slice none 0 0]) ?_ 0 _ rfl; (with_reducible repeat (first|refine kN ?_ _|refine kD ?_|refine kA ?_ _)); exact BK256.out) NB256_239.out (by simp)); have n4_ := Aside0.mk (hb); have n5_ := Aside0.mk (hi); clear BK235 HO251 HO254 BK256 HB HI239; have BK235 := n0_; have HO251 := n1_; have HO254 := n2_; have BK256 := n3_; have HB := n4_; have HI239 := n5_; clear n0_ n1_ n2_ n3_ n4_ n5_; (try clear hb); (try clear hb2); (try clear hk); (try clear hi)))
 go_loopg [6] k (fun kq v6 w' => ∃ (x6_1 : Int) (x257000_1 : List Int) (x257001_1 : List Int) (u257000 : Value) (u257001 : Value), v6 = .int .i64 x6_1 ∧ Aside0 (spec_MakeSurface.l0 kq x6_1 x257000_1 x257001_1 = some (r1, r2)) ∧ Aside0 (kq ≤ k) ∧ Aside0 (Kd.R (Kd.int .i64) 3 w' w.heap.size (fun k_ => some k_ ≠ (u257001 : Value).ownBlock) u257000 x257000_1) ∧ Aside0 (Kd.R (Kd.int .i64) 3 w' w.heap.size (fun k_ => some k_ ≠ (u257000 : Value).ownBlock) u257001 x257001_1) ∧ Aside0 (w'.heap[gb235]? = some (.cells #[(.slice none 0 0), (.slice none 0 0)] 25 (0, 0))) ∧ Aside0 (w'.heap[gb256]? = some (.cells #[u257000, u257001] 25 (0, 0))) ∧ Aside0 (Below w.heap.size w w'))
 case atStart => exact ⟨(t257), (t249), (t252), (.slice Ao16 t249.length co16), (.slice Ao20 t252.length co20), vX, H', ⟨Nat.le_refl _⟩, ⟨rX HO251.out⟩, ⟨rX HO254.out⟩, ⟨kX BK235.out⟩, ⟨kX BK256.out⟩, ⟨bX3 HB.out (IsS76.ge HI239.out) GE235.out GE256.out⟩⟩
 case round =>
 clear H'
 try clear c1
 try clear c2
 try clear p2
 try clear c4
 try clear c4b0
 try clear c4b1
 try clear c6
 try clear p6
 try clear c17
 try clear c18
 try clear hcz19_0
 try clear hcz19_1
 try clear hfz19_0
 try clear hfz19_1
 obtain ⟨x6_1, x257000_1, x257001_1, u257000, u257001, rfl, HA, HK1, HO_257000, HO_257001, BK235, BK256, HB⟩ := hrel
 cases gk with
 | zero => exact absurd HA.out (by simp [spec_MakeSurface.l0])
 | succ k1 =>
 have H := HA.out
 clear HA
 simp only [spec_MakeSurface.l0] at H
 by_cases c22 : x6_1 > 0
 {
 rw [if_pos c22] at H
 have c22b0 : decide (0 < x6_1) = true := decide_eq_true c22
 clear c22
 replace H := Option.bind_eq_some_iff.mp H
 obtain ⟨⟨t260, t263⟩, A230, H⟩ := H
 replace H : (spec_MakeSurface.l0 k1 (wrap64 (x6_1 - 1)) t260 t263) = some (r1, r2) := H
 have A23 := Aside0.mk A230
 clear A230
 have H' := Aside0.mk H
 clear H
 have hnb24 := NB256_235.out
 have hnc24 := NB235_256.out
 have hcz25_0 := cz20 BK256.out
 have hcz25_1 := cz21 BK256.out
 have hfz25_0 := blk_frozen BK256.out 0
 have hfz25_1 := blk_frozen BK256.out 1
 obtain ⟨Ao26, co26, eo26⟩ := Kd.R_slice HO_257000.out
 subst eo26
 obtain ⟨Ao27, co27, eo27⟩ := Kd.R_slice HO_257001.out
 subst eo27
 go_wp2_with (first | ((with_reducible refine gate_callee (f := 28) rfl ?_); refine goesL_ (some 32) rfl rfl Tryz.func28 (by kernel_rfl) rfl #[.agg #[.slice Ao26 x257000_1.length co26, .slice Ao27 x257001_1.length co27]] rfl aX ?_; (with_reducible refine (spec_l05Shear.calls k1 _ _ x257000_1 _ _ x257001_1 t260 t263 _ ?side1 ?side2 ?side3 ?side4 A23.out).mono ?_); (case side1 => exact cX (Kd.R_reads' HO_257000.out).2.2); (case side2 => exact (Kd.R_reads' HO_257000.out).2.1); (case side3 => exact cX (Kd.R_reads' HO_257001.out).2.2); (case side4 => exact (Kd.R_reads' HO_257001.out).2.1); rintro e w28 ⟨v261, v264, rfl, ho0, ho1, hb⟩; refine ⟨_, rfl, ?_⟩; have n0_ := Aside0.mk (Kd.R_mono (Kd.R_told (Kd.R_told (Kd.R_old (rX HO_257000.out) hb) (Kd.R_base ho0)) (Kd.R_base ho1)) (fun _ h_ => h_.1)); have n1_ := Aside0.mk (Kd.R_mono (Kd.R_told (Kd.R_told (Kd.R_old (rX HO_257001.out) hb) (Kd.R_base ho0)) (Kd.R_base ho1)) (fun _ h_ => h_.1)); have n2_ := Aside0.mk (Kd.R_lower (Kd.R_new' (Kd.R_new' ho0 (Kd.R_lt (rX HO_257000.out))) (Kd.R_lt (rX HO_257001.out))) (below_size (bX2 HB.out GE235.out GE256.out))); have n3_ := Aside0.mk (Kd.R_lower (Kd.R_new' (Kd.R_new' ho1 (Kd.R_lt (rX HO_257000.out))) (Kd.R_lt (rX HO_257001.out))) (below_size (bX2 HB.out GE235.out GE256.out))); have n4_ := Aside0.mk (bbX BK235.out hb); have n5_ := Aside0.mk (bbX BK256.out hb); have n6_ := Aside0.mk (below_step (bX2 HB.out GE235.out GE256.out) hb); clear HO_257000 HO_257001 BK235 BK256 HB; have HO_257000 := n0_; have HO_257001 := n1_; have HO262 := n2_; have HO265 := n3_; have BK235 := n4_; have BK256 := n5_; have HB := n6_; clear n0_ n1_ n2_ n3_ n4_ n5_ n6_; (try clear hb); (try clear hb2); (try clear hk); (try clear hi); (try clear ho0); (try clear ho1); obtain ⟨Ao29, co29, eo29⟩ := Kd.R_slice HO262.out; subst eo29; have hcz30_0 := cz20 BK256.out; have hcz30_1 := cz21 BK256.out; have hfz30_0 := blk_frozen BK256.out 0; have hfz30_1 := blk_frozen BK256.out 1; obtain ⟨Ao31, co31, eo31⟩ := Kd.R_slice HO265.out; subst eo31))
 go_roundg k1
 case measure => have := HK1.out; omega
 case rel => exact ⟨(wrap64 (x6_1 - 1)), (t260), (t263), (.slice Ao29 t260.length co29), (.slice Ao31 t263.length co31), vX, H', ⟨by have := HK1.out; omega⟩, ⟨by (with_reducible repeat (first|apply rA|apply rN|apply rD)); exact Kd.R_mono (Kd.R_far (p := ⟨gb256, 1, none⟩) (Kd.R_far (p := ⟨gb256, 0, none⟩) (Kd.R_types HO262.out BK256.out (by decide)) (fun _ hk => hk.2) (.slice Ao29 t260.length co29)) (fun _ hk => hk.2) (.slice Ao31 t263.length co31)) (fun _ hk => hk.1.1.1)⟩, ⟨by (with_reducible repeat (first|apply rA|apply rN|apply rD)); exact Kd.R_mono (Kd.R_far (p := ⟨gb256, 1, none⟩) (Kd.R_far (p := ⟨gb256, 0, none⟩) (Kd.R_types HO265.out BK256.out (by decide)) (fun _ hk => hk.2) (.slice Ao29 t260.length co29)) (fun _ hk => hk.2) (.slice Ao31 t263.length co31)) (fun _ hk => hk.1.1.1)⟩, ⟨by (with_reducible repeat (first|refine kN ?_ _|refine kD ?_|refine kA ?_ _)); refine blk_far ?_ NB235_256.out _; (with_reducible repeat (first|refine kN ?_ _|refine kD ?_|refine kA ?_ _)); refine blk_far ?_ NB235_256.out _; (with_reducible repeat (first|refine kN ?_ _|refine kD ?_|refine kA ?_ _)); exact BK235.out⟩, ⟨by (with_reducible repeat (first|refine kN ?_ _|refine kD ?_|refine kA ?_ _)); refine blk_put (cs := #[.slice Ao29 t260.length co29, .slice Ao27 x257001_1.length co27]) ?_ 1 _ rfl; (with_reducible repeat (first|refine kN ?_ _|refine kD ?_|refine kA ?_ _)); refine blk_put (cs := #[.slice Ao26 x257000_1.length co26, .slice Ao27 x257001_1.length co27]) ?_ 0 _ rfl; (with_reducible repeat (first|refine kN ?_ _|refine kD ?_|refine kA ?_ _)); exact BK256.out⟩, ⟨bX2 HB.out GE235.out GE256.out⟩⟩
 }
 {
 rw [if_neg c22] at H
 have c22b0 : decide (0 < x6_1) = false := decide_eq_false c22
 clear c22
 simp only [Option.some.injEq, Prod.mk.injEq] at H
 obtain ⟨rfl, rfl⟩ := H
 have hnb32 := NB256_235.out
 have hnc32 := NB235_256.out
 have hcz33_0 := cz20 BK256.out
 have hcz33_1 := cz21 BK256.out
 have hfz33_0 := blk_frozen BK256.out 0
 have hfz33_1 := blk_frozen BK256.out 1
 obtain ⟨Ao34, co34, eo34⟩ := Kd.R_slice HO_257000.out
 subst eo34
 have hcz35_0 := cz20 BK235.out
 have hcz35_1 := cz21 BK235.out
 have hfz35_0 := blk_frozen BK235.out 0
 have hfz35_1 := blk_frozen BK235.out 1
 obtain ⟨Ao36, co36, eo36⟩ := Kd.R_slice HO_257001.out
 subst eo36
 go_wp2
 refine bodyPost_ret (results_cell_row rfl _ _ gb235 25 #[.slice Ao34 x257000_1.length co34, .slice Ao36 x257001_1.length co36] (0, 0) _ rfl (by (with_reducible repeat (first|refine kN ?_ _|refine kD ?_|refine kA ?_ _)); refine blk_put (cs := #[.slice Ao34 x257000_1.length co34, .slice none 0 0]) ?_ 1 _ rfl; (with_reducible repeat (first|refine kN ?_ _|refine kD ?_|refine kA ?_ _)); refine blk_put (cs := #[.slice none 0 0, .slice none 0 0]) ?_ 0 _ rfl; (with_reducible repeat (first|refine kN ?_ _|refine kD ?_|refine kA ?_ _)); exact BK235.out) Tryz.underlying25 rfl (by kernel_rfl)) rfl ?_
 exact ⟨_, _, eX, by (with_reducible repeat (first|apply rA|apply rN|apply rD)); exact Kd.R_mono (Kd.R_far (p := ⟨gb235, 1, none⟩) (Kd.R_far (p := ⟨gb235, 0, none⟩) (Kd.R_types HO_257000.out BK235.out (by decide)) (fun _ hk => hk.2) (.slice Ao34 x257000_1.length co34)) (fun _ hk => hk.2) (.slice Ao36 x257001_1.length co36)) (fun _ hk => hk.1), by (with_reducible repeat (first|apply rA|apply rN|apply rD)); exact Kd.R_mono (Kd.R_far (p := ⟨gb235, 1, none⟩) (Kd.R_far (p := ⟨gb235, 0, none⟩) (Kd.R_types HO_257001.out BK235.out (by decide)) (fun _ hk => hk.2) (.slice Ao34 x257000_1.length co34)) (fun _ hk => hk.2) (.slice Ao36 x257001_1.length co36)) (fun _ hk => hk.1), bX2 HB.out GE235.out GE256.out⟩
 }
 }
 {
 rw [if_neg c4] at H
 have c4b0 : (t240 == 0) = false := beq_eq_false_iff_ne.mpr c4
 have c4b1 : (t240 != 0) = true := bne_iff_ne.mpr c4
 by_cases c37 : t240 = 1
 {
 rw [if_pos c37] at H
 have c37b0 : (t240 == 1) = true := beq_iff_eq.mpr c37
 have c37b1 : (t240 != 1) = false := bne_eq_false_iff_eq.mpr c37
 clear c37
 replace H := Option.bind_eq_some_iff.mp H
 obtain ⟨⟨t266, t267, t268⟩, A380, H⟩ := H
 replace H : ((spec_l01Below.f t236 t267 t268 4).bind fun bt269 => ((spec_EllOf.f k (wrap64 (1 + t266)) (wrap64 (1 + bt269.1))).bind fun bt272 => (some (bt272.1, bt272.2.1)))) = some (r1, r2) := H
 have A38 := Aside0.mk A380
 clear A380
 replace H := Option.bind_eq_some_iff.mp H
 obtain ⟨⟨t269, t270, t271⟩, A390, H⟩ := H
 replace H : ((spec_EllOf.f k (wrap64 (1 + t266)) (wrap64 (1 + t269))).bind fun bt272 => (some (bt272.1, bt272.2.1))) = some (r1, r2) := H
 have A39 := Aside0.mk A390
 clear A390
 replace H := Option.bind_eq_some_iff.mp H
 obtain ⟨⟨t272, t275, t278⟩, A400, H⟩ := H
 replace H : (some (t272, t275)) = some (r1, r2) := H
 have A40 := Aside0.mk A400
 clear A400
 simp only [Option.some.injEq, Prod.mk.injEq] at H
 obtain ⟨rfl, rfl⟩ := H
 go_enter Tryz.func6, Tryz.ntmps6
 go_wp2_with (first | ((with_reducible refine gate_dst (N := 2) rfl ?_); refine box_event ?hg (N := 2) ?hd (cs := #[.slice none 0 0, .slice none 0 0]) (t := 25) ?hr ?_; (case hd => rfl); (case hg => rfl); (case hr => first | (go_simp; done) | (go_simp; rfl)); intro gb235 hg w41 hbox hb; have n0_ := Aside0.mk (below_step (bX HB.out) hb); have n1_ := Aside0.mk (hbox); have n2_ := Aside0.mk ((szX (below_size (bX HB.out)) hg : w.heap.size ≤ gb235)); have n3_ := Aside0.mk ((szX (below_size (bX HB.out)) hg : w.heap.size ≤ gb235)); clear HB; have HB := n0_; have BK235 := n1_; have GW235 := n2_; have GE235 := n3_; clear n0_ n1_ n2_ n3_ hb hbox hg) | ((with_reducible refine gate_callee (f := 25) rfl ?_); refine goesL_ (some 10) rfl rfl Tryz.func25 (by kernel_rfl) rfl #[.slice A0 l0.length c0] rfl aX ?_; (with_reducible refine (spec_l01New.calls k _ _ l0 t236 t237 t238 w _ ?side1 ?side2 ?side3 A2.out).mono ?_); (case side1 => repeat (first | (with_reducible first | exact HB.out|apply bA|apply bN|apply bD | refine below_set ?_ GE235.out) | exact HB.out)); (case side2 => exact HR0.out); (case side3 => exact HC0.out); rintro e w42 ⟨g239, rfl, hi, hb, hb2⟩; refine ⟨_, rfl, ?_⟩; have n0_ := Aside0.mk (bbX BK235.out hb2); have n1_ := Aside0.mk (hb); have n2_ := Aside0.mk (hi); have n3_ := Aside0.mk (IsS76.ne_blk hi (bbX BK235.out hb2) (by decide)); have n4_ := Aside0.mk (Ne.symm (IsS76.ne_blk hi (bbX BK235.out hb2) (by decide))); clear BK235 HB; have BK235 := n0_; have HB := n1_; have HI239 := n2_; have NB239_235 := n3_; have NB235_239 := n4_; clear n0_ n1_ n2_ n3_ n4_; (try clear hb); (try clear hb2); (try clear hk); (try clear hi)) | ((with_reducible refine gate_callee (f := 26) rfl ?_); refine goesL_ (some 12) rfl rfl Tryz.func26 (by kernel_rfl) rfl #[.pointer (some ⟨g239, 0, none⟩), .int .i64 4] rfl aX ?_; (with_reducible refine (spec_l01Below.calls g239 t236 t237 t238 4 t240 t241 t242 w _ ?side1 ?side2 A3.out).mono ?_); (case side1 => repeat (first | (with_reducible first | exact HI239.out | apply IsS76.alloc | apply IsS76.drewN | apply IsS76.drew | apply IsS76.set_1 | apply IsS76.set_2 | refine IsS76.far ?_ NB239_235.out _) | exact HI239.out)); (case side2 => repeat (first | (with_reducible first | exact HB.out|apply bA|apply bN|apply bD | refine below_set ?_ (IsS76.ge HI239.out) | refine below_set ?_ GE235.out) | exact HB.out)); rintro e w43 ⟨rfl, hi, hb, hk⟩; refine ⟨_, rfl, ?_⟩; have n0_ := Aside0.mk (KeepBut.blk hk (g' := gb235) (o := .cells #[.slice none 0 0, .slice none 0 0] 25 (0, 0)) (kX BK235.out) NB235_239.out (by simp)); have n1_ := Aside0.mk (hb); have n2_ := Aside0.mk (hi); clear BK235 HB HI239; have BK235 := n0_; have HB := n1_; have HI239 := n2_; clear n0_ n1_ n2_; (try clear hb); (try clear hb2); (try clear hk); (try clear hi)) | ((with_reducible refine gate_callee (f := 26) rfl ?_); refine goesL_ (some 38) rfl rfl Tryz.func26 (by kernel_rfl) rfl #[.pointer (some ⟨g239, 0, none⟩), .int .i64 4] rfl aX ?_; (with_reducible refine (spec_l01Below.calls g239 t236 t241 t242 4 t266 t267 t268 w _ ?side1 ?side2 A38.out).mono ?_); (case side1 => repeat (first | (with_reducible first | exact HI239.out | apply IsS76.alloc | apply IsS76.drewN | apply IsS76.drew | apply IsS76.set_1 | apply IsS76.set_2 | refine IsS76.far ?_ NB239_235.out _) | exact HI239.out)); (case side2 => repeat (first | (with_reducible first | exact HB.out|apply bA|apply bN|apply bD | refine below_set ?_ (IsS76.ge HI239.out) | refine below_set ?_ GE235.out) | exact HB.out)); rintro e w44 ⟨rfl, hi, hb, hk⟩; refine ⟨_, rfl, ?_⟩; have n0_ := Aside0.mk (KeepBut.blk hk (g' := gb235) (o := .cells #[.slice none 0 0, .slice none 0 0] 25 (0, 0)) (kX BK235.out) NB235_239.out (by simp)); have n1_ := Aside0.mk (hb); have n2_ := Aside0.mk (hi); clear BK235 HB HI239; have BK235 := n0_; have HB := n1_; have HI239 := n2_; clear n0_ n1_ n2_; (try clear hb); (try clear hb2); (try clear hk); (try clear hi)) | ((with_reducible refine gate_callee (f := 26) rfl ?_); refine goesL_ (some 41) rfl rfl Tryz.func26 (by kernel_rfl) rfl #[.pointer (some ⟨g239, 0, none⟩), .int .i64 4] rfl aX ?_; (with_reducible refine (spec_l01Below.calls g239 t236 t267 t268 4 t269 t270 t271 w _ ?side1 ?side2 A39.out).mono ?_); (case side1 => repeat (first | (with_reducible first | exact HI239.out | apply IsS76.alloc | apply IsS76.drewN | apply IsS76.drew | apply IsS76.set_1 | apply IsS76.set_2 | refine IsS76.far ?_ NB239_235.out _) | exact HI239.out)); (case side2 => repeat (first | (with_reducible first | exact HB.out|apply bA|apply bN|apply bD | refine below_set ?_ (IsS76.ge HI239.out) | refine below_set ?_ GE235.out) | exact HB.out)); rintro e w45 ⟨rfl, hi, hb, hk⟩; refine ⟨_, rfl, ?_⟩; have n0_ := Aside0.mk (KeepBut.blk hk (g' := gb235) (o := .cells #[.slice none 0 0, .slice none 0 0] 25 (0, 0)) (kX BK235.out) NB235_239.out (by simp)); have n1_ := Aside0.mk (hb); have n2_ := Aside0.mk (hi); clear BK235 HB HI239; have BK235 := n0_; have HB := n1_; have HI239 := n2_; clear n0_ n1_ n2_; (try clear hb); (try clear hb2); (try clear hk); (try clear hi)) | ((with_reducible refine gate_callee (f := 29) rfl ?_); refine goesL_ (some 43) rfl rfl Tryz.func29 (by kernel_rfl) rfl #[.int .i64 (wrap64 (1 + t266)), .int .i64 (wrap64 (1 + t269))] rfl aX ?_; (with_reducible refine (spec_EllOf.calls k (wrap64 (1 + t266)) (wrap64 (1 + t269)) t272 t275 t278 _ A40.out).mono ?_); rintro e w46 ⟨v273, v276, rfl, ho0, ho1, hb⟩; refine ⟨_, rfl, ?_⟩; have n0_ := Aside0.mk (Kd.R_lower ho0 (below_size (bX2 HB.out (IsS76.ge HI239.out) GE235.out))); have n1_ := Aside0.mk (Kd.R_lower ho1 (below_size (bX2 HB.out (IsS76.ge HI239.out) GE235.out))); have n2_ := Aside0.mk (bbX BK235.out hb); have n3_ := Aside0.mk (IsS76.below (by repeat (first | (with_reducible first | exact HI239.out | apply IsS76.alloc | apply IsS76.drewN | apply IsS76.drew | apply IsS76.set_1 | apply IsS76.set_2 | refine IsS76.far ?_ NB239_235.out _) | exact HI239.out)) hb); have n4_ := Aside0.mk (below_step (bX2 HB.out (IsS76.ge HI239.out) GE235.out) hb); clear BK235 HI239 HB; have HO274 := n0_; have HO277 := n1_; have BK235 := n2_; have HI239 := n3_; have HB := n4_; clear n0_ n1_ n2_ n3_ n4_; (try clear hb); (try clear hb2); (try clear hk); (try clear hi); (try clear ho0); (try clear ho1)) | ((with_reducible refine gate_dst (N := 7) rfl ?_); refine box_event ?hg (N := 7) ?hd (cs := #[.slice none 0 0, .slice none 0 0]) (t := 25) ?hr ?_; (case hd => rfl); (case hg => rfl); (case hr => first | (go_simp; done) | (go_simp; rfl)); intro gb279 hg w47 hbox hb; have n0_ := Aside0.mk (Kd.R_below (rX HO274.out) hb); have n1_ := Aside0.mk (Kd.R_below (rX HO277.out) hb); have n2_ := Aside0.mk (bbX BK235.out hb); have n3_ := Aside0.mk (IsS76.below (by repeat (first | (with_reducible first | exact HI239.out | apply IsS76.alloc | apply IsS76.drewN | apply IsS76.drew | apply IsS76.set_1 | apply IsS76.set_2 | refine IsS76.far ?_ NB239_235.out _) | exact HI239.out)) hb); have n4_ := Aside0.mk (below_step (bX2 HB.out (IsS76.ge HI239.out) GE235.out) hb); have n5_ := Aside0.mk (hbox); have n6_ := Aside0.mk ((szX (below_size (bX2 HB.out (IsS76.ge HI239.out) GE235.out)) hg : w.heap.size ≤ gb279)); have n7_ := Aside0.mk ((szX (below_size (bX2 HB.out (IsS76.ge HI239.out) GE235.out)) hg : w.heap.size ≤ gb279)); have n8_ := Aside0.mk (neX BK235.out hg); have n9_ := Aside0.mk (nfX BK235.out hg); have n10_ := Aside0.mk ((by rw [hg]; exact Nat.ne_of_lt (IsS76.lt (show IsS76 w _ g239 t236 t270 t271 from by repeat (first | (with_reducible first | exact HI239.out | apply IsS76.alloc | apply IsS76.drewN | apply IsS76.drew | apply IsS76.set_1 | apply IsS76.set_2 | refine IsS76.far ?_ NB239_235.out _) | exact HI239.out))) : g239 ≠ gb279)); have n11_ := Aside0.mk ((by rw [hg]; exact Nat.ne_of_gt (IsS76.lt (show IsS76 w _ g239 t236 t270 t271 from by repeat (first | (with_reducible first | exact HI239.out | apply IsS76.alloc | apply IsS76.drewN | apply IsS76.drew | apply IsS76.set_1 | apply IsS76.set_2 | refine IsS76.far ?_ NB239_235.out _) | exact HI239.out))) : gb279 ≠ g239)); clear HO274 HO277 BK235 HI239 HB; have HO274 := n0_; have HO277 := n1_; have BK235 := n2_; have HI239 := n3_; have HB := n4_; have BK279 := n5_; have GW279 := n6_; have GE279 := n7_; have NB235_279 := n8_; have NB279_235 := n9_; have NB239_279 := n10_; have NB279_239 := n11_; clear n0_ n1_ n2_ n3_ n4_ n5_ n6_ n7_ n8_ n9_ n10_ n11_ hb hbox hg; obtain ⟨Ao48, co48, eo48⟩ := Kd.R_slice HO274.out; subst eo48; have hnb49 := NB279_235.out; have hnc49 := NB235_279.out; have hnb50 := NB279_239.out; have hnc50 := NB239_279.out; have hcz51_0 : w47.cell? ⟨gb279, 0, none⟩ = some (.slice none 0 0) := (blk_cell BK279.out 0).trans rfl; have hcz51_1 : w47.cell? ⟨gb279, 1, none⟩ = some (.slice none 0 0) := (blk_cell BK279.out 1).trans rfl; have hfz51_0 := blk_frozen BK279.out 0; have hfz51_1 := blk_frozen BK279.out 1; obtain ⟨Ao52, co52, eo52⟩ := Kd.R_slice HO277.out; subst eo52; have hnb53 := NB235_239.out; have hnc53 := NB239_235.out; have hcz54_0 := cz20 BK235.out; have hcz54_1 := cz21 BK235.out; have hfz54_0 := blk_frozen BK235.out 0; have hfz54_1 := blk_frozen BK235.out 1))
 refine bodyPost_ret (results_cell_row rfl _ _ gb235 25 #[.slice Ao48 t272.length co48, .slice Ao52 t275.length co52] (0, 0) _ rfl (by (with_reducible repeat (first|refine kN ?_ _|refine kD ?_|refine kA ?_ _)); refine blk_put (cs := #[.slice Ao48 t272.length co48, .slice none 0 0]) ?_ 1 _ rfl; (with_reducible repeat (first|refine kN ?_ _|refine kD ?_|refine kA ?_ _)); refine blk_put (cs := #[.slice none 0 0, .slice none 0 0]) ?_ 0 _ rfl; (with_reducible repeat (first|refine kN ?_ _|refine kD ?_|refine kA ?_ _)); refine blk_far ?_ NB235_279.out _; (with_reducible repeat (first|refine kN ?_ _|refine kD ?_|refine kA ?_ _)); refine blk_far ?_ NB235_279.out _; (with_reducible repeat (first|refine kN ?_ _|refine kD ?_|refine kA ?_ _)); exact BK235.out) Tryz.underlying25 rfl (by kernel_rfl)) rfl ?_
 exact ⟨_, _, eX, by (with_reducible repeat (first|apply rA|apply rN|apply rD)); exact Kd.R_mono (Kd.R_far (p := ⟨gb235, 1, none⟩) (Kd.R_far (p := ⟨gb235, 0, none⟩) (Kd.R_far (p := ⟨gb279, 1, none⟩) (Kd.R_far (p := ⟨gb279, 0, none⟩) (Kd.R_types (Kd.R_types HO274.out BK279.out (by decide)) BK235.out (by decide)) (fun _ hk => hk.1.2) (.slice Ao48 t272.length co48)) (fun _ hk => hk.1.2) (.slice Ao52 t275.length co52)) (fun _ hk => hk.2) (.slice Ao48 t272.length co48)) (fun _ hk => hk.2) (.slice Ao52 t275.length co52)) (fun _ hk => hk.1.1), by (with_reducible repeat (first|apply rA|apply rN|apply rD)); exact Kd.R_mono (Kd.R_far (p := ⟨gb235, 1, none⟩) (Kd.R_far (p := ⟨gb235, 0, none⟩) (Kd.R_far (p := ⟨gb279, 1, none⟩) (Kd.R_far (p := ⟨gb279, 0, none⟩) (Kd.R_types (Kd.R_types HO277.out BK279.out (by decide)) BK235.out (by decide)) (fun _ hk => hk.1.2) (.slice Ao48 t272.length co48)) (fun _ hk => hk.1.2) (.slice Ao52 t275.length co52)) (fun _ hk => hk.2) (.slice Ao48 t272.length co48)) (fun _ hk => hk.2) (.slice Ao52 t275.length co52)) (fun _ hk => hk.1.1), bX3 HB.out (IsS76.ge HI239.out) GE235.out GE279.out⟩
 }
 {
 rw [if_neg c37] at H
 have c37b0 : (t240 == 1) = false := beq_eq_false_iff_ne.mpr c37
 have c37b1 : (t240 != 1) = true := bne_iff_ne.mpr c37
 replace H := Option.bind_eq_some_iff.mp H
 obtain ⟨⟨t280, t283, t286, t287⟩, A550, H⟩ := H
 replace H : (some (t280, t283)) = some (r1, r2) := H
 have A55 := Aside0.mk A550
 clear A550
 simp only [Option.some.injEq, Prod.mk.injEq] at H
 obtain ⟨rfl, rfl⟩ := H
 go_enter Tryz.func6, Tryz.ntmps6
 go_wp2_with (first | ((with_reducible refine gate_dst (N := 2) rfl ?_); refine box_event ?hg (N := 2) ?hd (cs := #[.slice none 0 0, .slice none 0 0]) (t := 25) ?hr ?_; (case hd => rfl); (case hg => rfl); (case hr => first | (go_simp; done) | (go_simp; rfl)); intro gb235 hg w56 hbox hb; have n0_ := Aside0.mk (below_step (bX HB.out) hb); have n1_ := Aside0.mk (hbox); have n2_ := Aside0.mk ((szX (below_size (bX HB.out)) hg : w.heap.size ≤ gb235)); have n3_ := Aside0.mk ((szX (below_size (bX HB.out)) hg : w.heap.size ≤ gb235)); clear HB; have HB := n0_; have BK235 := n1_; have GW235 := n2_; have GE235 := n3_; clear n0_ n1_ n2_ n3_ hb hbox hg) | ((with_reducible refine gate_callee (f := 25) rfl ?_); refine goesL_ (some 10) rfl rfl Tryz.func25 (by kernel_rfl) rfl #[.slice A0 l0.length c0] rfl aX ?_; (with_reducible refine (spec_l01New.calls k _ _ l0 t236 t237 t238 w _ ?side1 ?side2 ?side3 A2.out).mono ?_); (case side1 => repeat (first | (with_reducible first | exact HB.out|apply bA|apply bN|apply bD | refine below_set ?_ GE235.out) | exact HB.out)); (case side2 => exact HR0.out); (case side3 => exact HC0.out); rintro e w57 ⟨g239, rfl, hi, hb, hb2⟩; refine ⟨_, rfl, ?_⟩; have n0_ := Aside0.mk (bbX BK235.out hb2); have n1_ := Aside0.mk (hb); have n2_ := Aside0.mk (hi); have n3_ := Aside0.mk (IsS76.ne_blk hi (bbX BK235.out hb2) (by decide)); have n4_ := Aside0.mk (Ne.symm (IsS76.ne_blk hi (bbX BK235.out hb2) (by decide))); clear BK235 HB; have BK235 := n0_; have HB := n1_; have HI239 := n2_; have NB239_235 := n3_; have NB235_239 := n4_; clear n0_ n1_ n2_ n3_ n4_; (try clear hb); (try clear hb2); (try clear hk); (try clear hi)) | ((with_reducible refine gate_callee (f := 26) rfl ?_); refine goesL_ (some 12) rfl rfl Tryz.func26 (by kernel_rfl) rfl #[.pointer (some ⟨g239, 0, none⟩), .int .i64 4] rfl aX ?_; (with_reducible refine (spec_l01Below.calls g239 t236 t237 t238 4 t240 t241 t242 w _ ?side1 ?side2 A3.out).mono ?_); (case side1 => repeat (first | (with_reducible first | exact HI239.out | apply IsS76.alloc | apply IsS76.drewN | apply IsS76.drew | apply IsS76.set_1 | apply IsS76.set_2 | refine IsS76.far ?_ NB239_235.out _) | exact HI239.out)); (case side2 => repeat (first | (with_reducible first | exact HB.out|apply bA|apply bN|apply bD | refine below_set ?_ (IsS76.ge HI239.out) | refine below_set ?_ GE235.out) | exact HB.out)); rintro e w58 ⟨rfl, hi, hb, hk⟩; refine ⟨_, rfl, ?_⟩; have n0_ := Aside0.mk (KeepBut.blk hk (g' := gb235) (o := .cells #[.slice none 0 0, .slice none 0 0] 25 (0, 0)) (kX BK235.out) NB235_239.out (by simp)); have n1_ := Aside0.mk (hb); have n2_ := Aside0.mk (hi); clear BK235 HB HI239; have BK235 := n0_; have HB := n1_; have HI239 := n2_; clear n0_ n1_ n2_; (try clear hb); (try clear hb2); (try clear hk); (try clear hi)) | ((with_reducible refine gate_callee (f := 30) rfl ?_); refine goesL_ (some 48) rfl rfl Tryz.func30 (by kernel_rfl) rfl #[.pointer (some ⟨g239, 0, none⟩), .int .i64 5] rfl aX ?_; (with_reducible refine (spec_l03Draw.calls k g239 t236 t241 t242 5 t280 t283 t286 t287 w _ ?side1 ?side2 A55.out).mono ?_); (case side1 => repeat (first | (with_reducible first | exact HI239.out | apply IsS76.alloc | apply IsS76.drewN | apply IsS76.drew | apply IsS76.set_1 | apply IsS76.set_2 | refine IsS76.far ?_ NB239_235.out _) | exact HI239.out)); (case side2 => repeat (first | (with_reducible first | exact HB.out|apply bA|apply bN|apply bD | refine below_set ?_ (IsS76.ge HI239.out) | refine below_set ?_ GE235.out) | exact HB.out)); rintro e w59 ⟨v281, v284, rfl, ho0, ho1, hi, hb, hk⟩; refine ⟨_, rfl, ?_⟩; have n0_ := Aside0.mk (KeepBut.blk hk (g' := gb235) (o := .cells #[.slice none 0 0, .slice none 0 0] 25 (0, 0)) (kX BK235.out) NB235_239.out (by simp)); have n1_ := Aside0.mk (Kd.R_lower ho0 (below_size (bX2 HB.out (IsS76.ge HI239.out) GE235.out))); have n2_ := Aside0.mk (Kd.R_lower ho1 (below_size (bX2 HB.out (IsS76.ge HI239.out) GE235.out))); have n3_ := Aside0.mk (hb); have n4_ := Aside0.mk (hi); clear BK235 HB HI239; have BK235 := n0_; have HO282 := n1_; have HO285 := n2_; have HB := n3_; have HI239 := n4_; clear n0_ n1_ n2_ n3_ n4_; (try clear hb); (try clear hb2); (try clear hk); (try clear hi); (try clear ho0); (try clear ho1); obtain ⟨Ao60, co60, eo60⟩ := Kd.R_slice HO282.out; subst eo60; have hnb61 := NB235_239.out; have hnc61 := NB239_235.out; have hcz62_0 := cz20 BK235.out; have hcz62_1 := cz21 BK235.out; have hfz62_0 := blk_frozen BK235.out 0; have hfz62_1 := blk_frozen BK235.out 1; obtain ⟨Ao63, co63, eo63⟩ := Kd.R_slice HO285.out; subst eo63))
 refine bodyPost_ret (results_cell_row rfl _ _ gb235 25 #[.slice Ao60 t280.length co60, .slice Ao63 t283.length co63] (0, 0) _ rfl (by (with_reducible repeat (first|refine kN ?_ _|refine kD ?_|refine kA ?_ _)); refine blk_put (cs := #[.slice Ao60 t280.length co60, .slice none 0 0]) ?_ 1 _ rfl; (with_reducible repeat (first|refine kN ?_ _|refine kD ?_|refine kA ?_ _)); refine blk_put (cs := #[.slice none 0 0, .slice none 0 0]) ?_ 0 _ rfl; (with_reducible repeat (first|refine kN ?_ _|refine kD ?_|refine kA ?_ _)); exact BK235.out) Tryz.underlying25 rfl (by kernel_rfl)) rfl ?_
 exact ⟨_, _, eX, by (with_reducible repeat (first|apply rA|apply rN|apply rD)); exact Kd.R_mono (Kd.R_far (p := ⟨gb235, 1, none⟩) (Kd.R_far (p := ⟨gb235, 0, none⟩) (Kd.R_types HO282.out BK235.out (by decide)) (fun _ hk => hk.2) (.slice Ao60 t280.length co60)) (fun _ hk => hk.2) (.slice Ao63 t283.length co63)) (fun _ hk => hk.1), by (with_reducible repeat (first|apply rA|apply rN|apply rD)); exact Kd.R_mono (Kd.R_far (p := ⟨gb235, 1, none⟩) (Kd.R_far (p := ⟨gb235, 0, none⟩) (Kd.R_types HO285.out BK235.out (by decide)) (fun _ hk => hk.2) (.slice Ao60 t280.length co60)) (fun _ hk => hk.2) (.slice Ao63 t283.length co63)) (fun _ hk => hk.1), bX2 HB.out (IsS76.ge HI239.out) GE235.out⟩
 }
 }

/-! ### strconv_Itoa: function 39 -/
/-! by hand -/
def strconv_Itoa.f (a0 : Int) : Option (ByteArray) := if -9223372036854775808 ≤ a0 ∧ a0 ≤ 9223372036854775807 then some ⟨(Go.Lib.itoa a0).toArray⟩ else none
theorem strconv_Itoa.calls (a0 : Int) (r : ByteArray) (w : World) (htab_ : PowTab w) (h : strconv_Itoa.f a0 = some r) :
    Calls Tryz.prog 39 #[.int .i64 a0] w fun e w' => e = .returned (.string r) ∧ Below w.heap.size w w' := by
  unfold strconv_Itoa.f at h
  by_cases hh : -9223372036854775808 ≤ a0 ∧ a0 ≤ 9223372036854775807
  · rw [if_pos hh] at h
    obtain rfl := Option.some.inj h
    refine (Tryz.strconv_Itoa a0 hh.1 hh.2 w htab_.tab).mono ?_
    rintro e w' ⟨rfl, k, os, rfl⟩
    exact ⟨rfl, Go.Lib.below_grow _ w (Nat.le_refl _) k os⟩
  · rw [if_neg hh] at h
    exact absurd h (by simp)

/-! ### impl_FormatInt: function 9 -/
def impl_FormatInt.f (a0 : Int) : Option (ByteArray) := (strconv_Itoa.f a0).bind fun t288 => (some t288)
set_option maxHeartbeats 8000000 in
set_option maxRecDepth 100000 in
theorem impl_FormatInt.calls (a0 : Int) (r : ByteArray) (w : World) (htab_ : PowTab w) (h : impl_FormatInt.f a0 = some r) :
  Calls Tryz.prog 9 #[.int .i64 a0] w fun e w' => e = .returned (.string r) ∧ Below w.heap.size w w' := by
 have HB := Aside0.mk (Below.refl w.heap.size w)
 have H : ((strconv_Itoa.f a0).bind fun t288 => (some t288)) = some r := h
 clear h
 have HTAB := Aside0.mk htab_
 clear htab_
 replace H := Option.bind_eq_some_iff.mp H
 obtain ⟨t288, A20, H⟩ := H
 replace H : (some t288) = some r := H
 have A2 := Aside0.mk A20
 clear A20
 obtain rfl := Option.some.inj H
 go_enter Tryz.func9, Tryz.ntmps9
 go_wp2_with (first | ((with_reducible refine gate_callee (f := 39) rfl ?_); refine goesL_ (some 4) rfl rfl Tryz.func39 (by kernel_rfl) rfl #[.int .i64 a0] rfl (by (try simp only [List.map_toArray, List.map_cons, List.map_nil]); first | done | rfl | (simp only [List.length_drop, List.length_take]; rfl)) ?_; (with_reducible refine (strconv_Itoa.calls a0 t288 _ ?side1 A2.out).mono ?_); (case side1 => exact PowTab.below HTAB.out (by repeat (first | (with_reducible first | exact HB.out | apply below_alloc | apply pw_below_drewN | apply below_drew1) | exact HB.out))); rintro e w3 ⟨rfl, hb⟩; refine ⟨_, rfl, ?_⟩; have n0_ := Aside0.mk (below_step (by repeat (first | (with_reducible first | exact HB.out | apply below_alloc | apply pw_below_drewN | apply below_drew1) | exact HB.out)) hb); clear HB; have HB := n0_; clear n0_; (try clear hb); (try clear hb2); (try clear hk); (try clear hi)))
 go_ret
 exact ⟨eX, by repeat (first | (with_reducible first | exact HB.out | apply below_alloc | apply pw_below_drewN | apply below_drew1) | exact HB.out)⟩

/-! ### impl_PermOk: function 74 -/
/-! by hand -/
def permGo (n : Int) : List Int → List Bool → Bool
  | [], _ => true
  | x :: xs, seen => if x < 0 then false else if n ≤ x then false else if seen.getD x.toNat false = true then false else permGo n xs (seen.set x.toNat true)
def no24 : List Bool := List.replicate 24 false
theorem no24_len : no24.length = 24 := rfl
def permB (p : List Int) : Bool := if p.length ≤ 24 then permGo p.length p no24 else false
def impl_PermOk.f (l0 : List Int) : Option Bool := some (permB l0)
def flags (l : List Bool) : Array Value := (bools l).toArray
theorem flags_size (l : List Bool) : (flags l).size = l.length := by simp [flags, bools]
theorem flags_one (l : List Bool) : (flags l).all (·.oneCell') = true := by
 simp [flags, bools, Value.oneCell']
theorem flags_get (l : List Bool) (i : Int) (h0 : 0 ≤ i) (h : i < l.length) : (flags l)[i.toNat]? = some (.bool (l.getD i.toNat false)) := by
 have : i.toNat < l.length := by omega
 simp [flags, bools, this]
theorem flags_set (l : List Bool) (i : Nat) (b : Bool) : (flags l).setIfInBounds i (.bool b) = flags (l.set i b) := by
 simp [flags, bools]
set_option maxHeartbeats 8000000 in
set_option maxRecDepth 100000 in
theorem impl_PermOk.calls_le (A0 : Option Addr) (c0 : Nat) (l0 : List (Int)) (r : Bool) (w : World) (hr0 : Kd.C (Kd.int .i64) w A0 l0.length l0) (hc0 : l0.length ≤ c0) (hle : l0.length ≤ 24) (hres : permGo l0.length l0 no24 = r) :
    Calls Tryz.prog 74 #[.slice A0 l0.length c0] w fun e w' => e = .returned (.bool r) ∧ Below w.heap.size w w' := by
  have HR0 := Aside0.mk hr0
  clear hr0
  have HRES := Aside0.mk hres
  clear hres
  have hu := Tryz.underlying102
  have hb24 : decide (24 < (l0.length : Int)) = false := decide_eq_false (by omega)
  have HF : Aside0 (flags no24 = #[.bool false, .bool false, .bool false, .bool false, .bool false, .bool false, .bool false, .bool false, .bool false, .bool false, .bool false, .bool false, .bool false, .bool false, .bool false, .bool false, .bool false, .bool false, .bool false, .bool false, .bool false, .bool false, .bool false, .bool false]) := ⟨rfl⟩
  go_enter Tryz.func74, Tryz.ntmps74
  go_wp2_with (first
    | ((with_reducible refine gate_dst (N := 6) rfl ?_); refine wpList_build rfl 102 #[] rfl (by kernel_rfl) ?_; rw [show (Value.agg ((Tryz.prog.built 102 ((#[] : Array (Nat × Operand)).map fun (i, x) => (i, Act.eval _ x)).toList).getD #[])) = .agg (flags no24) from by kernel_rfl])
    | ((with_reducible refine gate_dst (N := 3) rfl ?_); refine box_event ?hg (N := 3) ?hd (cs := flags no24) (t := 102) ?hr ?_; (case hd => rfl); (case hg => rfl); (case hr => rw [HF.out]; first | (go_simp; done) | (go_simp; rfl)); intro gb hg w8 hbox hb; have BK := Aside0.mk hbox; have HB := Aside0.mk hb; have GB := Aside0.mk hg; clear hbox hb hg)
    | (refine wpList_store_row rfl 102 (.tmp 3) (.tmp 6) rfl gb (flags no24) rfl rfl 102 (flags no24) BK.out (by kernel_rfl) rfl (flags_one _) ?_))
  have HC := Aside0.mk (show (w8.setRow gb (flags no24)).heap[gb]? = some (.cells (flags no24) 102 (0, 0)) from setRow_heap w8 gb (flags no24) (flags no24) 102 _ BK.out)
  have HB2 := Aside0.mk (show Below w.heap.size w (w8.setRow gb (flags no24)) from below_setRow HB.out (by rw [GB.out]; exact Nat.le_refl _) _)
  go_loopg [12] (l0.length + 1) (fun kq v12 w' => ∃ (i : Int) (seen : List Bool), v12 = .int .i64 i ∧ Aside0 (0 ≤ i ∧ i ≤ l0.length ∧ (kq : Int) + i = l0.length + 1 ∧ seen.length = 24 ∧ permGo l0.length (l0.drop i.toNat) seen = r) ∧ Aside0 (w'.heap[gb]? = some (.cells (flags seen) 102 (0, 0))) ∧ Aside0 (Below w.heap.size w w'))
  case atStart => exact ⟨0, no24, rfl, ⟨by omega, by omega, by simp, no24_len, HRES.out⟩, HC, HB2⟩
  case round =>
    clear HC HB2 BK HB
    obtain ⟨i, seen, rfl, HI, HC, HB⟩ := hrel
    obtain ⟨hi0, hi1, hik, hsl, hgo⟩ := HI.out
    clear HI
    obtain ⟨k1, rfl⟩ : ∃ m, gk = m + 1 := ⟨gk - 1, by omega⟩
    have HGO := Aside0.mk hgo
    have HK := Aside0.mk hik
    clear hgo hik
    by_cases hlt : i < (l0.length : Int)
    · have c1 : decide (i < (l0.length : Int)) = true := decide_eq_true hlt
      obtain ⟨ad, ead, hx⟩ := Kd.at_int (Kd.C_below HR0.out HB.out) i hi0 hlt
      cases ead
      have hdrop : l0.drop i.toNat = rd l0 i :: l0.drop (i + 1).toNat := by
        have h1 : i.toNat < l0.length := by omega
        rw [show (i + 1).toNat = i.toNat + 1 by omega, List.drop_eq_getElem_cons h1]
        simp [rd, List.getD, h1]
      have HD := Aside0.mk hdrop
      clear hdrop
      generalize hX : rd l0 i = x at *
      have HX := Aside0.mk hX
      clear hX
      have p0 : decide (0 ≤ i) = true := decide_eq_true hi0
      have HW := Aside0.mk (show wrap64 (i + 1) = i + 1 from by unfold wrap64; omega)
      replace hi0 := eq_true hi0
      replace hlt := eq_true hlt
      by_cases h1 : x < 0
      · have c2 : decide (x < 0) = true := decide_eq_true h1
        have hr : r = false := by
          have := HGO.out
          rw [HD.out] at this
          simp only [permGo] at this
          rw [if_pos h1] at this
          exact this.symm
        subst hr
        clear h1
        go_wp2
        go_ret
        exact ⟨rfl, HB.out⟩
      · have c2 : decide (x < 0) = false := decide_eq_false h1
        have h1' : 0 ≤ x := by omega
        by_cases h2 : (l0.length : Int) ≤ x
        · have c3 : decide ((l0.length : Int) ≤ x) = true := decide_eq_true h2
          have hr : r = false := by
            have := HGO.out
            rw [HD.out] at this
            simp only [permGo] at this
            rw [if_neg h1, if_pos h2] at this
            exact this.symm
          subst hr
          clear h1 h2
          go_wp2
          go_ret
          exact ⟨rfl, HB.out⟩
        · have c3 : decide ((l0.length : Int) ≤ x) = false := decide_eq_false h2
          have hx24 : x < 24 := by omega
          have hcell : ∀ b, seen.getD x.toNat false = b → wr.cell? ⟨gb, x.toNat, none⟩ = some (.bool b) := by
            intro b hb
            rw [Go.Joins.cell_of_block HC.out, flags_get seen x h1' (by omega), hb]
          have hfro := Go.Joins.unfrozen_of_block HC.out x.toNat
          have hsx : decide (0 ≤ x) = true := decide_eq_true h1'
          have hsx2 : decide (x < 24) = true := decide_eq_true hx24
          by_cases h3 : seen.getD x.toNat false = true
          · have hr : r = false := by
              have := HGO.out
              rw [HD.out] at this
              simp only [permGo] at this
              rw [if_neg h1, if_neg h2, if_pos h3] at this
              exact this.symm
            subst hr
            have hc2 := hcell true h3
            clear h1 h2 h3 hcell
            go_wp2
            go_ret
            exact ⟨rfl, HB.out⟩
          · have h3' : seen.getD x.toNat false = false := by simpa using h3
            have hg2 : permGo l0.length (l0.drop (i + 1).toNat) (seen.set x.toNat true) = r := by
              have := HGO.out
              rw [HD.out] at this
              simp only [permGo] at this
              rw [if_neg h1, if_neg h2, if_neg h3] at this
              exact this
            have HG2 := Aside0.mk hg2
            have hc2 := hcell false h3'
            have HC2 : Aside0 ((wr.setCell ⟨gb, x.toNat, none⟩ (.bool true)).heap[gb]? = some (.cells (flags (seen.set x.toNat true)) 102 (0, 0))) := ⟨by rw [Go.Joins.block_setCell HC.out, flags_set]⟩
            have HB2 : Aside0 (Below w.heap.size w (wr.setCell ⟨gb, x.toNat, none⟩ (.bool true))) := ⟨HB.out.setCell (by rw [GB.out]; exact Nat.le_refl _) _⟩
            clear h1 h2 h3 h3' hg2 hcell
            go_wp2
            go_roundg k1
            case measure => omega
            case rel => exact ⟨i + 1, _, by rw [HW.out], ⟨by simp at hi0; omega, by simp at hlt; omega, by have := HK.out; simp at this ⊢; omega, by simpa using hsl, HG2.out⟩, HC2, HB2⟩
    · have hie : i = l0.length := by omega
      have hr : r = true := by
        have := HGO.out
        rw [show l0.drop i.toNat = [] from by rw [hie]; simp] at this
        simp only [permGo] at this
        exact this.symm
      subst hr
      have c1 : decide (i < (l0.length : Int)) = false := decide_eq_false hlt
      clear hlt hie
      go_wp2
      go_ret
      exact ⟨rfl, HB.out⟩
set_option maxHeartbeats 8000000 in
set_option maxRecDepth 100000 in
theorem impl_PermOk.calls (A0 : Option Addr) (c0 : Nat) (l0 : List Int) (r : Bool) (w : World) (hr0 : Kd.C (Kd.int .i64) w A0 l0.length l0) (hc0 : l0.length ≤ c0) (h : impl_PermOk.f l0 = some r) :
    Calls Tryz.prog 74 #[.slice A0 l0.length c0] w fun e w' => e = .returned (.bool r) ∧ Below w.heap.size w w' := by
  unfold impl_PermOk.f permB at h
  by_cases hle : l0.length ≤ 24
  · rw [if_pos hle] at h
    exact impl_PermOk.calls_le A0 c0 l0 r w hr0 hc0 hle (Option.some.inj h)
  · rw [if_neg hle] at h
    obtain rfl := Option.some.inj h
    have HR0 := Aside0.mk hr0
    clear hr0
    have hu := Tryz.underlying102
    have hb24 : decide (24 < (l0.length : Int)) = true := decide_eq_true (by omega)
    have HF : Aside0 (flags no24 = #[.bool false, .bool false, .bool false, .bool false, .bool false, .bool false, .bool false, .bool false, .bool false, .bool false, .bool false, .bool false, .bool false, .bool false, .bool false, .bool false, .bool false, .bool false, .bool false, .bool false, .bool false, .bool false, .bool false, .bool false]) := ⟨rfl⟩
    clear hle
    go_enter Tryz.func74, Tryz.ntmps74
    go_wp2_with (first
      | ((with_reducible refine gate_dst (N := 6) rfl ?_); refine wpList_build rfl 102 #[] rfl (by kernel_rfl) ?_; rw [show (Value.agg ((Tryz.prog.built 102 ((#[] : Array (Nat × Operand)).map fun (i, x) => (i, Act.eval _ x)).toList).getD #[])) = .agg (flags no24) from by kernel_rfl])
      | ((with_reducible refine gate_dst (N := 3) rfl ?_); refine box_event ?hg (N := 3) ?hd (cs := flags no24) (t := 102) ?hr ?_; (case hd => rfl); (case hg => rfl); (case hr => rw [HF.out]; first | (go_simp; done) | (go_simp; rfl)); intro gb hg w8 hbox hb; have BK := Aside0.mk hbox; have HB := Aside0.mk hb; have GB := Aside0.mk hg; clear hbox hb hg)
      | (refine wpList_store_row rfl 102 (.tmp 3) (.tmp 6) rfl gb (flags no24) rfl rfl 102 (flags no24) BK.out (by kernel_rfl) rfl (flags_one _) ?_))
    have HB2 := Aside0.mk (show Below w.heap.size w (w8.setRow gb (flags no24)) from below_setRow HB.out (by rw [GB.out]; exact Nat.le_refl _) _)
    go_ret
    exact ⟨rfl, HB2.out⟩

end Go.Proofs.YthhdgeafdnikcaaGreatDoor.S
