/- The program's OrbitLine returns what the reference's returns, for all arguments: no condition. -/
import Derived.Test.YtpieaniigkgmoaaGreatDoorSayFnExactOrbitLine
namespace Go.Proofs.YtpieaniigkgmoaaGreatDoor.Pure
open Go.RowKit Go.Proofs.YtpieaniigkgmoaaGreatDoor.S Go.Proofs.YtpieaniigkgmoaaGreatDoorW.PrintWords Go.Proofs.YtpieaniigkgmoaaGreatDoorW.PrintLast
set_option linter.unusedVariables false
set_option linter.unusedSimpArgs false

theorem ev_up {α : Type} {g : Nat → Option α} {r : α} (h : Ev (fun k => g (k + 1)) r) : Ev g r := Ev.step (fun _ => rfl) h
theorem pw_wrap {a : Int} (h0 : -9223372036854775808 ≤ a) (h1 : a ≤ 9223372036854775807) : wrap64 a = a := by
  unfold wrap64
  omega

/-- A permutation of at most 24 elements. -/
def isPerm (p : List Int) : Prop := p.length ≤ 24 ∧ (∀ x ∈ p, 0 ≤ x ∧ x < (p.length : Int)) ∧ p.Nodup
theorem perm_go (n : Nat) (hn : n ≤ 24) : ∀ (p pre : List Int) (seen : List Bool), seen.length = 24 → (∀ x : Int, 0 ≤ x → x < n → (seen.getD x.toNat false = true ↔ x ∈ pre)) →
    permGo n p seen = permSGo n pre p := by
  intro p
  induction p with
  | nil => intro pre seen _ _; rfl
  | cons x p ih =>
    intro pre seen hl hs
    simp only [permGo, permSGo]
    by_cases h0 : x < 0
    · rw [if_pos h0, if_neg (by omega)]
    · rw [if_neg h0]
      by_cases h1 : (n : Int) ≤ x
      · rw [if_pos h1, if_neg (by omega)]
      · rw [if_neg h1, if_pos (show 0 ≤ x ∧ x ≤ (n : Int) - 1 by omega)]
        have hx := hs x (by omega) (by omega)
        by_cases h2 : x ∈ pre
        · rw [if_pos (hx.2 h2), if_pos h2]
        · rw [if_neg (fun h => h2 (hx.1 h)), if_neg h2]
          refine ih _ _ (by simpa using hl) (fun y hy0 hy1 => ?_)
          by_cases hxy : x = y
          · subst hxy
            have : x.toNat < seen.length := by omega
            simp [List.getD, this]
          · have hne : x.toNat ≠ y.toNat := by omega
            have := hs y hy0 hy1
            simp only [List.getD, List.getElem?_set_ne hne]
            rw [List.getD] at this
            rw [this]
            simp [Ne.symm hxy]
theorem perm_same (p : List Int) : permB p = permSB p := by
  unfold permB permSB
  by_cases h : p.length ≤ 24
  · rw [if_pos h, if_pos h]
    refine perm_go p.length h p [] no24 rfl (fun x h0 h1 => ?_)
    have : no24.getD x.toNat false = false := by
      unfold no24
      simp only [List.getD, List.getElem?_replicate]
      split <;> rfl
    rw [this]
    simp
  · rw [if_neg h, if_neg h]
theorem permS_iff (n : Nat) : ∀ (p pre : List Int), permSGo n pre p = true ↔ ((∀ x ∈ p, 0 ≤ x ∧ x < (n : Int)) ∧ (∀ x ∈ p, x ∉ pre) ∧ p.Nodup)
  | [], pre => by simp [permSGo]
  | x :: p, pre => by
    simp only [permSGo]
    by_cases h : 0 ≤ x ∧ x ≤ (n : Int) - 1
    · rw [if_pos h]
      by_cases h2 : x ∈ pre
      · rw [if_pos h2]
        simp [h2]
      · rw [if_neg h2, permS_iff n p (pre ++ [x])]
        simp only [List.mem_cons, forall_eq_or_imp, List.nodup_cons]
        constructor
        · rintro ⟨h3, h4, h5⟩
          exact ⟨⟨by omega, h3⟩, ⟨h2, fun y hy hp => h4 y hy (List.mem_append.2 (.inl hp))⟩, fun hx => h4 x hx (List.mem_append.2 (.inr (List.mem_singleton.2 rfl))), h5⟩
        · rintro ⟨h3, h4, h5, h6⟩
          refine ⟨h3.2, fun y hy hp => ?_, h6⟩
          rcases List.mem_append.1 hp with hp | hp
          · exact h4.2 y hy hp
          · rw [List.mem_singleton.1 hp] at hy
            exact h5 hy
    · rw [if_neg h]
      simp only [Bool.false_eq_true, List.mem_cons, forall_eq_or_imp, false_iff]
      intro h2
      omega
theorem permB_iff (p : List Int) : permB p = true ↔ isPerm p := by
  rw [perm_same]
  unfold permSB isPerm
  by_cases h : p.length ≤ 24
  · rw [if_pos h, permS_iff]
    simp [h]
  · rw [if_neg h]
    simp [h]

/-! Lists without a number twice; what is met from a place. -/
theorem nodup_len (n : Nat) : ∀ l : List Int, l.Nodup → (∀ x ∈ l, 0 ≤ x ∧ x < n) → l.length ≤ n := by
  induction n with
  | zero =>
    intro l _ h
    cases l with
    | nil => simp
    | cons x l => have := h x (by simp); omega
  | succ n ih =>
    intro l hn h
    have h2 := ih (l.filter (fun x => x != (n : Int))) (hn.filter _) (fun x hx => by
      have h3 := List.mem_filter.1 hx
      have h4 := h x h3.1
      have h5 : x ≠ (n : Int) := by simpa using h3.2
      omega)
    have h3 : l.length ≤ (l.filter (fun x => x != (n : Int))).length + 1 := by
      clear h h2 ih
      induction l with
      | nil => simp
      | cons y l ihl =>
        have hn2 := List.nodup_cons.1 hn
        by_cases hy : y = (n : Int)
        · have : l.filter (fun x => x != (n : Int)) = l := List.filter_eq_self.2 (fun x hx => by
            have : x ≠ (n : Int) := fun e => hn2.1 (by rw [hy, ← e]; exact hx)
            simpa using this)
          simp [hy, this]
        · have := ihl hn2.2
          simp [hy]
          omega
    omega
def push (q : List Int) (k : Int) : List Int := if 0 ≤ k ∧ k ∉ q then q ++ [k] else q
def pushAll (q : List Int) (ks : List Int) : List Int := ks.foldl push q
/-- Distinct numbers below n. -/
def Few (n : Nat) (q : List Int) : Prop := q.Nodup ∧ ∀ x ∈ q, 0 ≤ x ∧ x < (n : Int)
theorem few_push {n : Nat} {q : List Int} {k : Int} (h : Few n q) (hk : k < n) : Few n (push q k) := by
  unfold push
  split
  · rename_i h2
    refine ⟨?_, fun x hx => ?_⟩
    · rw [List.nodup_append]
      refine ⟨h.1, by simp, ?_⟩
      intro a ha b hb
      simp at hb
      subst hb
      exact fun e => h2.2 (e ▸ ha)
    · rcases List.mem_append.1 hx with hx | hx
      · exact h.2 x hx
      · simp at hx; subst hx; exact ⟨h2.1, hk⟩
  · exact h
theorem push_len (q : List Int) (k : Int) : q.length ≤ (push q k).length := by unfold push; split <;> simp
theorem few_pushAll {n : Nat} : ∀ (ks q : List Int), Few n q → (∀ k ∈ ks, k < n) → Few n (pushAll q ks) ∧ q.length ≤ (pushAll q ks).length
  | [], q, h, _ => ⟨h, Nat.le_refl _⟩
  | k :: ks, q, h, hk => by
    have h1 := few_push h (hk k (by simp))
    have h2 := few_pushAll ks (push q k) h1 (fun x hx => hk x (by simp [hx]))
    exact ⟨h2.1, Nat.le_trans (push_len q k) h2.2⟩
theorem few_len {n : Nat} {q : List Int} (h : Few n q) : q.length ≤ n := nodup_len n q h.1 h.2
/-- The queue behind the places from 'at_' on. -/
def bfs (nb : Int → List Int) : Nat → List Int → Nat → List Int
  | 0, q, _ => q
  | f + 1, q, i => if h : i < q.length then bfs nb f (pushAll q (nb q[i])) (i + 1) else q
theorem bfs_done (nb : Int → List Int) (f : Nat) (q : List Int) (i : Nat) (h : ¬ i < q.length) : bfs nb f q i = q := by
  cases f with
  | zero => rfl
  | succ f => rw [bfs, dif_neg h]
theorem bfs_few {n : Nat} (nb : Int → List Int) (hnb : ∀ x : Int, 0 ≤ x → x < (n : Int) → ∀ k ∈ nb x, k < (n : Int)) : ∀ (f : Nat) (q : List Int) (i : Nat), Few n q → Few n (bfs nb f q i)
  | 0, q, i, h => h
  | f + 1, q, i, h => by
    rw [bfs]
    split
    · rename_i hi
      have := h.2 _ (List.getElem_mem hi)
      exact bfs_few nb hnb f _ _ (few_pushAll (nb q[i]) q h (hnb q[i] this.1 this.2)).1
    · exact h

/-! Small words on lists, read at a place. -/
theorem wrap_snoc {α : Type} {p s : List α} {x : α} (h : (p ++ x :: s).length ≤ 4611686018427387904) : wrap64 ((p.length : Int) + 1) = ((p ++ [x]).length : Int) := by
  simp at h ⊢
  unfold wrap64
  omega
theorem lt_mid {α : Type} (p s : List α) (x : α) : ((p.length : Nat) : Int) < ((p ++ x :: s).length : Int) := by simp; omega
theorem nlt_end {α : Type} (p : List α) : ¬ ((p.length : Nat) : Int) < ((p ++ []).length : Int) := by simp
theorem rd_mid (p s : List Int) (x : Int) : rd (p ++ x :: s) (p.length : Int) = x := by simp [rd, List.getD]
theorem rd_get (q : List Int) (i : Nat) (h : i < q.length) : rd q (i : Int) = q[i] := by simp [rd, List.getD, h]

/-- Which of the numbers below n are on the list. -/
def flagsOf (n : Nat) (q : List Int) : List Bool := (List.range n).map (fun (i : Nat) => decide ((i : Int) ∈ q))
theorem flagsOf_len (n : Nat) (q : List Int) : (flagsOf n q).length = n := by simp [flagsOf]
theorem flagsOf_nil (n : Nat) : flagsOf n [] = List.replicate n false := by
  apply List.ext_getElem?
  intro i
  by_cases h : i < n <;> simp [flagsOf, List.getElem?_replicate, h]
theorem flagsOf_rd (n : Nat) (q : List Int) {x : Int} (h0 : 0 ≤ x) (h1 : x < n) : rdOf false (flagsOf n q) x = decide (x ∈ q) := by
  have e : ((x.toNat : Nat) : Int) = x := by omega
  simp [rdOf, flagsOf, List.getD, show x.toNat < n by omega, e]
theorem flagsOf_set (n : Nat) (q : List Int) {x : Int} (h0 : 0 ≤ x) (h1 : x < n) : (flagsOf n q).set x.toNat true = flagsOf n (q ++ [x]) := by
  apply List.ext_getElem?
  intro i
  have hl : x.toNat < (flagsOf n q).length := by rw [flagsOf_len]; omega
  by_cases h : i = x.toNat
  · subst h
    have e : ((x.toNat : Nat) : Int) = x := by omega
    simp [flagsOf, show x.toNat < n by omega, e]
  · have hne : ((i : Nat) : Int) ≠ x := by omega
    rw [List.getElem?_set_ne (by omega)]
    by_cases hi : i < n <;> simp [flagsOf, hi, hne]
theorem perm_rd {p : List Int} (h : isPerm p) {x : Int} (h0 : 0 ≤ x) (h1 : x < p.length) : 0 ≤ rd p x ∧ rd p x < (p.length : Int) := by
  have e : rd p x = p[x.toNat]'(by omega) := by simp [rd, List.getD, show x.toNat < p.length by omega]
  rw [e]
  exact h.2.1 _ (List.getElem_mem _)

theorem few_full {n : Nat} {q : List Int} (h : Few n q) (hl : q.length = n) {x : Int} (h0 : 0 ≤ x) (h1 : x < n) : x ∈ q := by
  refine Classical.byContradiction fun hm => ?_
  have hf := few_push h h1
  have := few_len hf
  unfold push at this
  rw [if_pos ⟨h0, hm⟩] at this
  simp at this
  omega
/-! Inverses of permutations; one after the other. -/
theorem rd_ext {a b : List Int} (hl : a.length = b.length) (h : ∀ x : Int, 0 ≤ x → x < a.length → rd a x = rd b x) : a = b := by
  apply List.ext_getElem hl
  intro i h1 h2
  have := h (i : Int) (by omega) (by omega)
  rwa [rd_get a i h1, rd_get b i h2] at this
theorem rdS_same {a : List Int} {k v : Int} (k0 : 0 ≤ k) (k1 : k < a.length) : rd (a.set k.toNat v) k = v := by
  have : k.toNat < a.length := by omega
  simp [rd, List.getD, this]
theorem rdS_ne {a : List Int} {k l v : Int} (k0 : 0 ≤ k) (l0 : 0 ≤ l) (h : l ≠ k) : rd (a.set k.toNat v) l = rd a l := by
  have : k.toNat ≠ l.toNat := by omega
  simp [rd, List.getD, List.getElem?_set_ne this]
theorem pm_in {p : List Int} (hp : isPerm p) {x : Int} (x0 : 0 ≤ x) (x1 : x < p.length) : 0 ≤ rd p x ∧ rd p x < p.length := perm_rd hp x0 x1
theorem pm_inj {p : List Int} (hp : isPerm p) {x y : Int} (x0 : 0 ≤ x) (x1 : x < p.length) (y0 : 0 ≤ y) (y1 : y < p.length) (e : rd p x = rd p y) : x = y := by
  obtain ⟨i, rfl⟩ := Int.eq_ofNat_of_zero_le x0
  obtain ⟨j, rfl⟩ := Int.eq_ofNat_of_zero_le y0
  have hi : i < p.length := by omega
  have hj : j < p.length := by omega
  rw [rd_get p i hi, rd_get p j hj] at e
  have := List.pairwise_iff_getElem.1 hp.2.2
  rcases Nat.lt_trichotomy i j with h | h | h
  · exact absurd e (this i j hi hj h)
  · rw [h]
  · exact absurd e.symm (this j i hj hi h)
theorem pm_sur {p : List Int} (hp : isPerm p) {y : Int} (y0 : 0 ≤ y) (y1 : y < p.length) : ∃ x : Int, 0 ≤ x ∧ x < p.length ∧ rd p x = y := by
  have hm : y ∈ p := few_full (n := p.length) ⟨hp.2.2, hp.2.1⟩ rfl y0 y1
  obtain ⟨i, hi, e⟩ := List.getElem_of_mem hm
  exact ⟨(i : Int), by omega, by omega, by rw [rd_get p i hi, e]⟩
theorem pm_of {a : List Int} (hl : a.length ≤ 24) (hb : ∀ x : Int, 0 ≤ x → x < a.length → 0 ≤ rd a x ∧ rd a x < a.length) (hi : ∀ x y : Int, 0 ≤ x → x < a.length → 0 ≤ y → y < a.length → rd a x = rd a y → x = y) : isPerm a := by
  refine ⟨hl, fun x hx => ?_, ?_⟩
  · obtain ⟨i, h, rfl⟩ := List.getElem_of_mem hx
    have := hb (i : Int) (by omega) (by omega)
    rwa [rd_get a i h] at this
  · refine List.pairwise_iff_getElem.2 fun i j h1 h2 hij e => ?_
    have := hi (i : Int) (j : Int) (by omega) (by omega) (by omega) (by omega) (by rw [rd_get a i h1, rd_get a j h2, e])
    omega
def invGo (p : List Int) : Nat → Int → List Int → List Int
  | 0, _, out => out
  | d + 1, i, out => invGo p d (i + 1) (out.set (rd p i).toNat i)
def invL (p : List Int) : List Int := invGo p p.length 0 (List.replicate p.length 0)
theorem invGo_spec {p : List Int} (hp : isPerm p) : ∀ (d : Nat) (i : Int) (out : List Int), 0 ≤ i → i + d = p.length → out.length = p.length → (∀ j : Int, 0 ≤ j → j < i → rd out (rd p j) = j) →
    (invGo p d i out).length = p.length ∧ ∀ j : Int, 0 ≤ j → j < p.length → rd (invGo p d i out) (rd p j) = j
  | 0, i, out, h0, hi, hl, h => ⟨hl, fun j j0 j1 => h j j0 (by omega)⟩
  | d + 1, i, out, h0, hi, hl, h => by
    have hb := pm_in hp h0 (by omega)
    refine invGo_spec hp d (i + 1) _ (by omega) (by omega) (by simpa using hl) ?_
    intro j j0 j1
    by_cases e : j = i
    · subst e
      exact rdS_same hb.1 (by omega)
    · have hj := pm_in hp j0 (by omega)
      rw [rdS_ne hb.1 hj.1 (fun e2 => e (pm_inj hp j0 (by omega) h0 (by omega) e2))]
      exact h j j0 (by omega)
theorem invL_len {p : List Int} (hp : isPerm p) : (invL p).length = p.length := (invGo_spec hp p.length 0 _ (by omega) (by omega) (by simp) (fun j j0 j1 => by omega)).1
theorem inv_left {p : List Int} (hp : isPerm p) {x : Int} (h0 : 0 ≤ x) (h1 : x < p.length) : rd (invL p) (rd p x) = x := (invGo_spec hp p.length 0 _ (by omega) (by omega) (by simp) (fun j j0 j1 => by omega)).2 x h0 h1
theorem inv_right {p : List Int} (hp : isPerm p) {y : Int} (h0 : 0 ≤ y) (h1 : y < p.length) : rd p (rd (invL p) y) = y ∧ 0 ≤ rd (invL p) y ∧ rd (invL p) y < p.length := by
  obtain ⟨x, x0, x1, e⟩ := pm_sur hp h0 h1
  rw [← e, inv_left hp x0 x1]
  exact ⟨rfl, x0, x1⟩
theorem inv_perm {p : List Int} (hp : isPerm p) : isPerm (invL p) := by
  have hl := invL_len hp
  refine pm_of (by have := hp.1; omega) (fun x h0 h1 => ?_) (fun x y x0 x1 y0 y1 e => ?_)
  · have := inv_right hp h0 (by omega)
    omega
  · rw [← (inv_right hp x0 (by omega)).1, e, (inv_right hp y0 (by omega)).1]
def thenL (p q : List Int) : List Int := p.map (rd q)
theorem then_len (p q : List Int) : (thenL p q).length = p.length := by simp [thenL]
theorem then_rd (p q : List Int) {x : Int} (h0 : 0 ≤ x) (h1 : x < p.length) : rd (thenL p q) x = rd q (rd p x) := by
  obtain ⟨i, rfl⟩ := Int.eq_ofNat_of_zero_le h0
  have hi : i < p.length := by omega
  rw [rd_get _ i (by rw [then_len]; exact hi), rd_get p i hi]
  simp [thenL]
theorem then_perm {p q : List Int} (hp : isPerm p) (hq : isPerm q) (he : p.length = q.length) : isPerm (thenL p q) := by
  have hl := then_len p q
  refine pm_of (by have := hp.1; omega) (fun x h0 h1 => ?_) (fun x y x0 x1 y0 y1 e => ?_)
  · have a := pm_in hp h0 (by omega)
    have := pm_in hq a.1 (by omega)
    rw [then_rd p q h0 (by omega)]
    omega
  · rw [then_rd p q x0 (by omega), then_rd p q y0 (by omega)] at e
    have a := pm_in hp x0 (by omega)
    have b := pm_in hp y0 (by omega)
    exact pm_inj hp x0 (by omega) y0 (by omega) (pm_inj hq a.1 (by omega) b.1 (by omega) e)
/-! What the functions compute. -/
theorem spec_inv_l0 {p : List Int} (hp : isPerm p) : ∀ (d : Nat) (i : Int) (out : List Int), 0 ≤ i → i + d = p.length → out.length = p.length → Ev (fun k => spec_l02Inverse.l0 k out p (p.length : Int) i) (invGo p d i out)
  | 0, i, out, h0, hi, hl => by
    refine ev_up ?_
    simp only [spec_l02Inverse.l0, if_neg (show ¬ i < (p.length : Int) by omega)]
    exact Ev.now _
  | d + 1, i, out, h0, hi, hl => by
    have hb := pm_in hp h0 (by omega)
    have hn := hp.1
    refine ev_up ?_
    simp only [spec_l02Inverse.l0, if_pos (show i < (p.length : Int) by omega), if_pos h0, if_pos hb.1, if_pos (show rd p i < (out.length : Int) by omega), pw_wrap (a := i + 1) (by omega) (by omega)]
    exact spec_inv_l0 hp d (i + 1) _ (by omega) (by omega) (by simpa using hl)
theorem spec_inv {p : List Int} (hp : isPerm p) : Ev (fun k => spec_l02Inverse.f k p) (invL p) := by
  have hn := hp.1
  unfold spec_l02Inverse.f
  simp only [if_pos (Int.natCast_nonneg p.length), Int.toNat_natCast, if_pos (show p.length ≤ 35184372088832 by omega)]
  exact spec_inv_l0 hp p.length 0 _ (by omega) (by omega) (by simp)
theorem impl_inv_l0 {p : List Int} (hp : isPerm p) : ∀ (d : Nat) (i : Int) (out : List Int), 0 ≤ i → i + d = p.length → out.length = p.length → Ev (fun k => impl_InversePerm.l0 k out p (p.length : Int) i) (invGo p d i out)
  | 0, i, out, h0, hi, hl => by
    refine ev_up ?_
    simp only [impl_InversePerm.l0, if_neg (show ¬ i < (p.length : Int) by omega)]
    exact Ev.now _
  | d + 1, i, out, h0, hi, hl => by
    have hb := pm_in hp h0 (by omega)
    have hn := hp.1
    refine ev_up ?_
    simp only [impl_InversePerm.l0, if_pos (show i < (p.length : Int) by omega), if_pos h0, if_pos hb.1, if_pos (show rd p i < (out.length : Int) by omega), pw_wrap (a := i + 1) (by omega) (by omega)]
    exact impl_inv_l0 hp d (i + 1) _ (by omega) (by omega) (by simpa using hl)
theorem impl_inv {p : List Int} (hp : isPerm p) : Ev (fun k => impl_InversePerm.f k p) (invL p) := by
  have hn := hp.1
  unfold impl_InversePerm.f
  simp only [impl_PermOk.f, Option.bind_some, if_pos ((permB_iff p).2 hp), if_pos (Int.natCast_nonneg p.length), Int.toNat_natCast, if_pos (show p.length ≤ 35184372088832 by omega)]
  exact impl_inv_l0 hp p.length 0 _ (by omega) (by omega) (by simp)
theorem spec_thn_l0 (q p : List Int) (hp : p.length ≤ 1000) (hb : ∀ x ∈ p, 0 ≤ x ∧ x < (q.length : Int)) : ∀ (suf pre : List Int), p = pre ++ suf → Ev (fun k => spec_l02Then.l0 k q (pre.map (rd q)) p (p.length : Int) (pre.length : Int)) (p.map (rd q))
  | [], pre, e => by
    have e2 : p = pre := by simpa using e
    subst e2
    refine ev_up ?_
    simp only [spec_l02Then.l0, if_neg (show ¬ ((p.length : Int) < p.length) by omega)]
    exact Ev.now _
  | x :: suf, pre, e => by
    have hlen : p.length = pre.length + suf.length + 1 := by rw [e]; simp; omega
    have hx : rd p (pre.length : Int) = x := by rw [e]; simp [rd, List.getD]
    have hw : wrap64 ((pre.length : Int) + 1) = ((pre ++ [x]).length : Int) := by rw [pw_wrap (by omega) (by omega)]; simp
    have hxb := hb x (by rw [e]; simp)
    have ih := spec_thn_l0 q p hp hb suf (pre ++ [x]) (by simp [e])
    refine ev_up ?_
    simp only [spec_l02Then.l0, if_pos (show ((pre.length : Int) < p.length) by omega), if_pos (Int.natCast_nonneg pre.length), hx, hw, if_pos hxb.1, if_pos hxb.2, List.length_map, if_pos (show pre.length < 17592186044416 by omega)]
    rw [List.map_append] at ih
    exact ih
theorem spec_thn {p q : List Int} (hp : isPerm p) (he : p.length = q.length) : Ev (fun k => spec_l02Then.f k p q) (thenL p q) :=
  spec_thn_l0 q p (by have := hp.1; omega) (fun x hx => by have := hp.2.1 x hx; omega) p [] rfl
theorem impl_thn_l0 {p q : List Int} (hp : isPerm p) (he : p.length = q.length) : ∀ (d : Nat) (i : Int) (out : List Int), 0 ≤ i → i + d = p.length → out.length = p.length → (∀ j : Int, 0 ≤ j → j < i → rd out j = rd q (rd p j)) → Ev (fun k => impl_ThenPerm.l0 k q out p (p.length : Int) i) (thenL p q)
  | 0, i, out, h0, hi, hl, h => by
    refine ev_up ?_
    simp only [impl_ThenPerm.l0, if_neg (show ¬ i < (p.length : Int) by omega)]
    have e : out = thenL p q := rd_ext (by rw [hl, then_len]) (fun x x0 x1 => by rw [then_rd p q x0 (by omega)]; exact h x x0 (by omega))
    rw [e]
    exact Ev.now _
  | d + 1, i, out, h0, hi, hl, h => by
    have hb := pm_in hp h0 (by omega)
    have hn := hp.1
    refine ev_up ?_
    simp only [impl_ThenPerm.l0, if_pos (show i < (p.length : Int) by omega), if_pos h0, if_pos hb.1, if_pos (show rd p i < (q.length : Int) by omega), if_pos (show i < (out.length : Int) by omega), pw_wrap (a := i + 1) (by omega) (by omega)]
    refine impl_thn_l0 hp he d (i + 1) _ (by omega) (by omega) (by simpa using hl) (fun j j0 j1 => ?_)
    by_cases e : j = i
    · subst e
      exact rdS_same h0 (by omega)
    · rw [rdS_ne h0 j0 e]
      exact h j j0 (by omega)
theorem impl_thn {p q : List Int} (hp : isPerm p) (hq : isPerm q) (he : p.length = q.length) : Ev (fun k => impl_ThenPerm.f k p q) (thenL p q) := by
  have hn := hp.1
  unfold impl_ThenPerm.f
  simp only [impl_PermOk.f, Option.bind_some, if_pos ((permB_iff p).2 hp), if_pos ((permB_iff q).2 hq), show ((p.length : Int) != (q.length : Int)) = false by rw [bne_eq_false_iff_eq]; omega]
  refine ev_up ?_
  simp only [impl_ThenPerm.j0, Bool.false_eq_true, if_false, if_pos (Int.natCast_nonneg p.length), Int.toNat_natCast, if_pos (show p.length ≤ 35184372088832 by omega)]
  exact impl_thn_l0 hp he p.length 0 _ (by omega) (by omega) (by simp) (fun j j0 j1 => by omega)

theorem spec_has_l0 (l : List Int) (hl : l.length ≤ 4611686018427387904) (x : Int) : ∀ (suf pre : List Int), l = pre ++ suf →
    Ev (fun k => spec_l02Has.l0 k x l (l.length : Int) (pre.length : Int)) (decide (x ∈ suf)) := by
  intro suf
  induction suf with
  | nil =>
    intro pre h
    subst h
    refine ev_up ?_
    simp only [spec_l02Has.l0, if_neg (nlt_end pre)]
    simpa using Ev.now false
  | cons c suf ih =>
    intro pre h
    have := ih (pre ++ [c]) (by simp [h])
    subst h
    refine ev_up ?_
    by_cases hc : c = x
    · simp only [spec_l02Has.l0, if_pos (lt_mid pre suf c), if_pos (Int.natCast_nonneg pre.length), rd_mid, if_pos hc]
      simpa [hc] using Ev.now true
    · simp only [spec_l02Has.l0, if_pos (lt_mid pre suf c), if_pos (Int.natCast_nonneg pre.length), rd_mid, if_neg hc, wrap_snoc hl]
      rw [show decide (x ∈ c :: suf) = decide (x ∈ suf) by simp [Ne.symm hc]]
      exact this
theorem spec_has (l : List Int) (hl : l.length ≤ 4611686018427387904) (x : Int) : Ev (fun k => spec_l02Has.f k l x) (decide (x ∈ l)) := spec_has_l0 l hl x l [] rfl

def nbT (r u : List Int) (x : Int) : List Int := [rd r x, rd u x]
theorem spec_reach_l1 (rr u : List Int) (n : Nat) (hn : n ≤ 24) (x8 : Int) (hx : 0 ≤ x8 ∧ x8 ≤ 1000) (ys : List Int) (hy : ys.length ≤ 1000) (r : List Int) : ∀ (suf pre q : List Int), ys = pre ++ suf → Few n q → (∀ k ∈ suf, 0 ≤ k ∧ k < (n : Int)) →
    Ev (fun k => spec_l02Reach.l0 k rr u (pushAll q suf) (x8 + 1)) r → Ev (fun k => spec_l02Reach.l1 k rr u q x8 ys (ys.length : Int) (pre.length : Int)) r := by
  intro suf
  induction suf with
  | nil =>
    intro pre q h hq hk hr
    subst h
    refine ev_up ?_
    simp only [spec_l02Reach.l1, if_neg (nlt_end pre), pw_wrap (a := x8 + 1) (by omega) (by omega)]
    exact hr
  | cons c suf ih =>
    intro pre q h hq hk hr
    have hc := hk c (by simp)
    have hf := few_push hq hc.2
    have hi := ih (pre ++ [c]) (push q c) (by simp [h]) hf (fun k h' => hk k (by simp [h'])) hr
    subst h
    have hql := few_len hq
    refine ev_up ?_
    simp only [spec_l02Reach.l1, if_pos (lt_mid pre suf c), if_pos (Int.natCast_nonneg pre.length), rd_mid, wrap_snoc (x := c) (s := suf) (p := pre) (by simp at hy ⊢; omega)]
    refine Ev.bind (spec_has q (by omega) c) ?_
    by_cases hm : c ∈ q
    · simp only [decide_eq_true hm, if_true]
      unfold push at hi
      rw [if_neg (fun h => h.2 hm)] at hi
      exact hi
    · simp only [decide_eq_false hm, Bool.false_eq_true, if_false, if_pos (show q.length < 17592186044416 by omega)]
      unfold push at hi
      rw [if_pos ⟨hc.1, hm⟩] at hi
      exact hi
theorem nbT_lt {rr u : List Int} (hr : isPerm rr) (hu : isPerm u) (he : rr.length = u.length) {x : Int} (h0 : 0 ≤ x) (h1 : x < rr.length) : ∀ k ∈ nbT rr u x, 0 ≤ k ∧ k < (rr.length : Int) := by
  intro k hk
  have a := perm_rd hr h0 h1
  have b := perm_rd hu h0 (by omega)
  simp only [nbT, List.mem_cons, List.not_mem_nil, or_false] at hk
  rcases hk with rfl | rfl <;> omega
theorem spec_reach_l0 {rr u : List Int} (hr : isPerm rr) (hu : isPerm u) (he : rr.length = u.length) : ∀ (f : Nat) (q : List Int) (i : Nat), Few rr.length q → i ≤ q.length → f + i = rr.length + 1 →
    Ev (fun k => spec_l02Reach.l0 k rr u q (i : Int)) (bfs (nbT rr u) f q i) := by
  intro f
  have hn := hr.1
  induction f with
  | zero =>
    intro q i hq hi hf
    have := few_len hq
    omega
  | succ f ih =>
    intro q i hq hi hf
    have hql := few_len hq
    refine ev_up ?_
    by_cases h : i < q.length
    · have hx := hq.2 _ (List.getElem_mem h)
      simp only [spec_l02Reach.l0, if_pos (show ((i : Nat) : Int) < (q.length : Int) by omega), if_pos (Int.natCast_nonneg i), rd_get q i h, if_pos hx.1, if_pos hx.2, if_pos (show q[i] < (u.length : Int) by omega), Option.bind_some]
      have hlt := nbT_lt hr hu he hx.1 hx.2
      have hp := few_pushAll _ q hq (fun k hk => (hlt k hk).2)
      have := ih _ (i + 1) hp.1 (by have := hp.2; omega) (by omega)
      rw [bfs, dif_pos h]
      exact spec_reach_l1 rr u rr.length hn i (by omega) (nbT rr u q[i]) (by simp [nbT]) _ _ [] q rfl hq hlt this
    · simp only [spec_l02Reach.l0, if_neg (show ¬ ((i : Nat) : Int) < (q.length : Int) by omega)]
      rw [bfs_done _ _ _ _ h]
      exact Ev.now _
def reachOf (r u : List Int) : List Int := bfs (nbT r u) (r.length + 1) [0] 0
def transB (r u : List Int) : Bool := permB r && permB u && decide (r.length = u.length) && decide (0 < r.length) && ((reachOf r u).length : Int) == (r.length : Int)
theorem few_z {n : Nat} (h : 1 ≤ n) : Few n [0] := ⟨by simp, fun x hx => by simp at hx; subst hx; omega⟩
theorem spec_trans (r u : List Int) : Ev (fun k => spec_IsTransitive.f k r u) (transB r u) := by
  unfold spec_IsTransitive.f transB
  simp only [spec_PermOk.f, ← perm_same, Option.bind_some]
  by_cases h1 : permB r = true
  · simp only [h1, if_true, Bool.true_and]
    by_cases h2 : permB u = true
    · simp only [h2, if_true, Bool.true_and]
      by_cases h3 : r.length = u.length
      · simp only [if_pos (show (r.length : Int) = u.length by omega), decide_eq_true h3, Bool.true_and]
        by_cases h4 : 0 < r.length
        · simp only [if_pos (show (r.length : Int) > 0 by omega), decide_eq_true h4, Bool.true_and]
          refine Ev.bind (a := reachOf r u) ?_ (Ev.now _)
          unfold spec_l02Reach.f
          exact spec_reach_l0 ((permB_iff r).1 h1) ((permB_iff u).1 h2) h3 _ [0] 0 (few_z h4) (by simp) (by omega)
        · simp only [if_neg (show ¬ (r.length : Int) > 0 by omega), decide_eq_false h4, Bool.false_and]
          exact Ev.now _
      · simp only [if_neg (show ¬ (r.length : Int) = u.length by omega), decide_eq_false h3, Bool.false_and]
        exact Ev.now _
    · simp only [Bool.eq_false_iff.2 h2, Bool.false_eq_true, if_false, Bool.false_and]
      exact Ev.now _
  · simp only [Bool.eq_false_iff.2 h1, Bool.false_eq_true, if_false, Bool.false_and]
    exact Ev.now _
theorem impl_trans_l1 (rr u : List Int) (n : Nat) (hn : n ≤ 24) (x8 : Int) (hx : 0 ≤ x8 ∧ x8 ≤ 1000) (ys : List Int) (hy : ys.length ≤ 1000) (r : Bool) : ∀ (suf pre q : List Int), ys = pre ++ suf → Few n q → (∀ k ∈ suf, 0 ≤ k ∧ k < (n : Int)) →
    Ev (fun k => impl_IsTransitive.l0 k rr u (flagsOf n (pushAll q suf)) (pushAll q suf) (x8 + 1)) r → Ev (fun k => impl_IsTransitive.l1 k rr u (flagsOf n q) q x8 ys (ys.length : Int) (pre.length : Int)) r := by
  intro suf
  induction suf with
  | nil =>
    intro pre q h hq hk hr
    subst h
    refine ev_up ?_
    simp only [impl_IsTransitive.l1, if_neg (nlt_end pre), pw_wrap (a := x8 + 1) (by omega) (by omega)]
    exact hr
  | cons c suf ih =>
    intro pre q h hq hk hr
    have hc := hk c (by simp)
    have hf := few_push hq hc.2
    have hi := ih (pre ++ [c]) (push q c) (by simp [h]) hf (fun k h' => hk k (by simp [h'])) hr
    subst h
    have hql := few_len hq
    refine ev_up ?_
    simp only [impl_IsTransitive.l1, if_pos (lt_mid pre suf c), if_pos (Int.natCast_nonneg pre.length), rd_mid, wrap_snoc (x := c) (s := suf) (p := pre) (by simp at hy ⊢; omega), if_pos hc.1, flagsOf_len, if_pos hc.2, flagsOf_rd n q hc.1 hc.2]
    by_cases hm : c ∈ q
    · simp only [decide_eq_true hm, if_true]
      unfold push at hi
      rw [if_neg (fun h => h.2 hm)] at hi
      exact hi
    · simp only [decide_eq_false hm, Bool.false_eq_true, if_false, if_pos (show q.length < 17592186044416 by omega), flagsOf_set n q hc.1 hc.2]
      unfold push at hi
      rw [if_pos ⟨hc.1, hm⟩] at hi
      exact hi
theorem impl_trans_l0 {rr u : List Int} (hr : isPerm rr) (hu : isPerm u) (he : rr.length = u.length) : ∀ (f : Nat) (q : List Int) (i : Nat), Few rr.length q → i ≤ q.length → f + i = rr.length + 1 →
    Ev (fun k => impl_IsTransitive.l0 k rr u (flagsOf rr.length q) q (i : Int)) (((bfs (nbT rr u) f q i).length : Int) == (rr.length : Int)) := by
  intro f
  have hn := hr.1
  induction f with
  | zero =>
    intro q i hq hi hf
    have := few_len hq
    omega
  | succ f ih =>
    intro q i hq hi hf
    have hql := few_len hq
    refine ev_up ?_
    by_cases h : i < q.length
    · have hx := hq.2 _ (List.getElem_mem h)
      simp only [impl_IsTransitive.l0, if_pos (show ((i : Nat) : Int) < (q.length : Int) by omega), if_pos (Int.natCast_nonneg i), rd_get q i h, if_pos hx.1, if_pos hx.2, if_pos (show q[i] < (u.length : Int) by omega), Option.bind_some]
      have hlt := nbT_lt hr hu he hx.1 hx.2
      have hp := few_pushAll _ q hq (fun k hk => (hlt k hk).2)
      have := ih _ (i + 1) hp.1 (by have := hp.2; omega) (by omega)
      rw [bfs, dif_pos h]
      exact impl_trans_l1 rr u rr.length hn i (by omega) (nbT rr u q[i]) (by simp [nbT]) _ _ [] q rfl hq hlt this
    · simp only [impl_IsTransitive.l0, if_neg (show ¬ ((i : Nat) : Int) < (q.length : Int) by omega)]
      rw [bfs_done _ _ _ _ h]
      exact Ev.now _
theorem impl_trans (r u : List Int) : Ev (fun k => impl_IsTransitive.f k r u) (transB r u) := by
  unfold impl_IsTransitive.f transB
  have hbad : ∀ b : Bool, b = false → Ev (fun k => impl_IsTransitive.j0 k r u true) b := by
    rintro b rfl
    refine ev_up ?_
    simp only [impl_IsTransitive.j0, if_true]
    exact Ev.now _
  simp only [impl_PermOk.f, Option.bind_some]
  by_cases h1 : permB r = true
  · simp only [h1, if_true, Bool.true_and]
    by_cases h2 : permB u = true
    · simp only [h2, if_true, Bool.true_and]
      by_cases h3 : r.length = u.length
      · simp only [if_pos (show (r.length : Int) = u.length by omega), decide_eq_true h3, Bool.true_and]
        by_cases h4 : 0 < r.length
        · have hn := ((permB_iff r).1 h1).1
          have e : ((r.length : Int) == 0) = false := by simp; intro e; rw [e] at h4; exact absurd h4 (by simp)
          rw [e]
          simp only [decide_eq_true h4, Bool.true_and]
          refine ev_up ?_
          have hset : (List.replicate r.length false).set (0 : Int).toNat true = flagsOf r.length [0] := by
            rw [← flagsOf_nil, flagsOf_set r.length [] (by omega) (by omega)]
            rfl
          simp only [impl_IsTransitive.j0, Bool.false_eq_true, if_false, if_pos (Int.natCast_nonneg r.length), Int.toNat_natCast, if_pos (show r.length ≤ 281474976710656 by omega), Option.bind_some, List.length_replicate, if_pos (show (0 : Int) < (r.length : Int) by omega), hset]
          exact impl_trans_l0 ((permB_iff r).1 h1) ((permB_iff u).1 h2) h3 _ [0] 0 (few_z h4) (by simp) (by omega)
        · have e : ((r.length : Int) == 0) = true := by
            have : r.length = 0 := by omega
            rw [this]; rfl
          rw [e]
          simp only [decide_eq_false h4, Bool.false_and]
          exact hbad _ rfl
      · simp only [if_neg (show ¬ (r.length : Int) = u.length by omega), decide_eq_false h3, Bool.false_and]
        exact hbad _ rfl
    · simp only [Bool.eq_false_iff.2 h2, Bool.false_eq_true, if_false, Bool.false_and]
      exact hbad _ rfl
  · simp only [Bool.eq_false_iff.2 h1, Bool.false_eq_true, if_false, Bool.false_and]
    exact hbad _ rfl
theorem transB_side {r u : List Int} (h : transB r u = true) : isPerm r ∧ isPerm u ∧ r.length = u.length ∧ 0 < r.length ∧ (reachOf r u).length = r.length := by
  unfold transB at h
  simp only [Bool.and_eq_true, decide_eq_true_eq, beq_iff_eq] at h
  obtain ⟨⟨⟨⟨h1, h2⟩, h3⟩, h4⟩, h5⟩ := h
  exact ⟨(permB_iff r).1 h1, (permB_iff u).1 h2, h3, h4, by omega⟩
theorem spec_surfOk (r u : List Int) : Ev (fun k => spec_SurfaceOk.f k r u) (transB r u) := Ev.bind (spec_trans r u) (Ev.now _)
theorem impl_surfOk (r u : List Int) : Ev (fun k => impl_SurfaceOk.f k r u) (transB r u) := Ev.bind (impl_trans r u) (Ev.now _)

theorem mem_push {q : List Int} {x : Int} (k : Int) (h : x ∈ q) : x ∈ push q k := by
  unfold push
  split
  · exact List.mem_append_left _ h
  · exact h
theorem mem_pushAll {x : Int} : ∀ (ks q : List Int), x ∈ q → x ∈ pushAll q ks
  | [], _, h => h
  | k :: ks, q, h => mem_pushAll ks (push q k) (mem_push k h)
theorem push_mem {q : List Int} {k : Int} (h : 0 ≤ k) : k ∈ push q k := by
  unfold push
  by_cases hk : k ∈ q
  · rw [if_neg (fun z => z.2 hk)]
    exact hk
  · rw [if_pos ⟨h, hk⟩]
    simp
theorem pushAll_mem {k : Int} (h0 : 0 ≤ k) : ∀ (ks q : List Int), k ∈ ks → k ∈ pushAll q ks
  | [], _, h => absurd h (by simp)
  | c :: ks, q, h => by
    rcases List.mem_cons.1 h with rfl | h
    · exact mem_pushAll ks _ (push_mem h0)
    · exact pushAll_mem h0 ks (push q c) h
theorem pushAll_pre : ∀ (ks q : List Int), ∃ s, pushAll q ks = q ++ s
  | [], q => ⟨[], by simp [pushAll]⟩
  | k :: ks, q => by
    obtain ⟨s, hs⟩ := pushAll_pre ks (push q k)
    have e : pushAll q (k :: ks) = pushAll (push q k) ks := rfl
    rw [e, hs]
    unfold push
    split
    · exact ⟨k :: s, by simp⟩
    · exact ⟨s, rfl⟩
theorem bfs_pre (nb : Int → List Int) : ∀ (f : Nat) (q : List Int) (i : Nat), ∃ s, bfs nb f q i = q ++ s
  | 0, q, i => ⟨[], by simp [bfs]⟩
  | f + 1, q, i => by
    rw [bfs]
    split
    · rename_i h
      obtain ⟨s, hs⟩ := pushAll_pre (nb q[i]) q
      obtain ⟨s', hs'⟩ := bfs_pre nb f (pushAll q (nb q[i])) (i + 1)
      exact ⟨s ++ s', by rw [hs', hs, List.append_assoc]⟩
    · exact ⟨[], by simp⟩
/-- What is met is closed. -/
theorem bfs_closed {n : Nat} (nb : Int → List Int) (hnb : ∀ x : Int, 0 ≤ x → x < (n : Int) → ∀ k ∈ nb x, k < (n : Int)) : ∀ (f : Nat) (q : List Int) (i : Nat), Few n q → f + i = n + 1 → (∀ j (h : j < q.length), j < i → ∀ k ∈ nb q[j], 0 ≤ k → k ∈ q) →
    ∀ x ∈ bfs nb f q i, ∀ k ∈ nb x, 0 ≤ k → k ∈ bfs nb f q i
  | 0, q, i, hq, hf, hc => by
    intro x hx k hk h0
    have e : bfs nb 0 q i = q := rfl
    rw [e] at hx ⊢
    obtain ⟨j, hj, rfl⟩ := List.getElem_of_mem hx
    have := few_len hq
    exact hc j hj (by omega) k hk h0
  | f + 1, q, i, hq, hf, hc => by
    rw [bfs]
    split
    · rename_i h
      have hr := hq.2 _ (List.getElem_mem h)
      have hp := few_pushAll (nb q[i]) q hq (hnb _ hr.1 hr.2)
      refine bfs_closed nb hnb f _ (i + 1) hp.1 (by omega) ?_
      intro j hj hji k hk h0
      obtain ⟨s, hs⟩ := pushAll_pre (nb q[i]) q
      have hjq : j < q.length := by omega
      have e : (pushAll q (nb q[i]))[j] = q[j] := by simp [hs, List.getElem_append_left hjq]
      rw [e] at hk
      by_cases hji2 : j = i
      · subst hji2
        exact pushAll_mem h0 _ _ hk
      · exact mem_pushAll _ _ (hc j hjq (by omega) k hk h0)
    · rename_i h
      intro x hx k hk h0
      obtain ⟨j, hj, rfl⟩ := List.getElem_of_mem hx
      exact hc j hj (by omega) k hk h0
/-- What is met lies in every closed set with the beginning. -/
theorem bfs_sub (nb : Int → List Int) (P : Int → Prop) (hP : ∀ x, P x → ∀ k ∈ nb x, 0 ≤ k → P k) : ∀ (f : Nat) (q : List Int) (i : Nat), (∀ x ∈ q, P x) → ∀ x ∈ bfs nb f q i, P x
  | 0, q, i, h => h
  | f + 1, q, i, h => by
    rw [bfs]
    split
    · rename_i hi
      refine bfs_sub nb P hP f _ (i + 1) ?_
      have hx := h _ (List.getElem_mem hi)
      have all : ∀ (ks q : List Int), (∀ k ∈ ks, 0 ≤ k → P k) → (∀ x ∈ q, P x) → ∀ x ∈ pushAll q ks, P x := by
        intro ks
        induction ks with
        | nil => exact fun q _ h => h
        | cons k ks ih =>
          intro q hk hq
          refine ih (push q k) (fun z hz => hk z (List.mem_cons_of_mem _ hz)) ?_
          intro z hz
          unfold push at hz
          split at hz
          · rename_i hc
            rcases List.mem_append.1 hz with hz | hz
            · exact hq z hz
            · simp at hz
              subst hz
              exact hk z List.mem_cons_self hc.1
          · exact hq z hz
      exact all _ q (fun k hk h0 => hP _ hx k hk h0) h
    · exact h

/-! Half turns. -/
/-! The reference's: along the squares as they are met. -/
def Ord (nb : Int → List Int) (q : List Int) : Prop := ∀ (j : Nat) (h : j < q.length), q[j] = 0 ∨ ∃ (i : Nat) (h' : i < j), q[j] ∈ nb (q[i]'(by omega))
theorem ord_push {nb : Int → List Int} {q : List Int} (ho : Ord nb q) {y k : Int} (hy : y ∈ q) (hk : k ∈ nb y) : Ord nb (push q k) := by
  unfold push
  split
  · obtain ⟨i, hi, rfl⟩ := List.getElem_of_mem hy
    intro j h
    by_cases hj : j < q.length
    · rw [List.getElem_append_left hj]
      rcases ho j hj with h2 | ⟨m, hm, h2⟩
      · exact .inl h2
      · exact .inr ⟨m, hm, by rw [List.getElem_append_left (by omega)]; exact h2⟩
    · have hj2 : j = q.length := by simp at h; omega
      subst hj2
      refine .inr ⟨i, hi, ?_⟩
      rw [List.getElem_append_left hi]
      simpa using hk
  · exact ho
theorem ord_pushAll {nb : Int → List Int} {y : Int} : ∀ (ks q : List Int), Ord nb q → y ∈ q → (∀ k ∈ ks, k ∈ nb y) → Ord nb (pushAll q ks)
  | [], q, ho, _, _ => ho
  | k :: ks, q, ho, hy, hk => by
    have e : pushAll q (k :: ks) = pushAll (push q k) ks := rfl
    rw [e]
    exact ord_pushAll ks (push q k) (ord_push ho hy (hk k (by simp))) (mem_push k hy) (fun z hz => hk z (List.mem_cons_of_mem _ hz))
theorem ord_bfs (nb : Int → List Int) : ∀ (f : Nat) (q : List Int) (i : Nat), Ord nb q → Ord nb (bfs nb f q i)
  | 0, q, i, h => h
  | f + 1, q, i, h => by
    rw [bfs]
    split
    · rename_i hi
      exact ord_bfs nb f _ _ (ord_pushAll (nb q[i]) q h (List.getElem_mem hi) (fun k hk => hk))
    · exact h
theorem reach_facts {r u : List Int} (h : transB r u = true) : Few r.length (reachOf r u) ∧ (∀ z : Int, 0 ≤ z → z < r.length → z ∈ reachOf r u) ∧ Ord (nbT r u) (reachOf r u) := by
  obtain ⟨hr, hu, he, h0, hq⟩ := transB_side h
  have hf : Few r.length (reachOf r u) := bfs_few (nbT r u) (fun x x0 x1 k hk => (nbT_lt hr hu he x0 x1 k hk).2) _ [0] 0 (few_z h0)
  refine ⟨hf, fun z z0 z1 => few_full hf hq z0 z1, ord_bfs _ _ _ _ ?_⟩
  intro j hj
  have : j = 0 := by simp at hj; omega
  subst this
  exact .inl rfl
/-! The program's: a list of the squares met. -/
/-- A step again and again. -/
def iter (f : Int → Int) : Nat → Int → Int
  | 0, x => x
  | m + 1, x => iter f m (f x)
theorem iter_succ (f : Int → Int) : ∀ (m : Nat) (x : Int), iter f (m + 1) x = f (iter f m x)
  | 0, _ => rfl
  | m + 1, x => by rw [iter, iter_succ f m (f x), ← iter]
theorem iter_bd {n : Nat} {f : Int → Int} (hb : ∀ x : Int, 0 ≤ x → x < n → 0 ≤ f x ∧ f x < n) : ∀ (m : Nat) {x : Int}, 0 ≤ x → x < n → 0 ≤ iter f m x ∧ iter f m x < n
  | 0, _, h0, h1 => ⟨h0, h1⟩
  | m + 1, x, h0, h1 => iter_bd hb m (hb x h0 h1).1 (hb x h0 h1).2
def orb (f : Int → Int) : Nat → Int → List Int
  | 0, x => [x]
  | k + 1, x => x :: (orb f k x).map f
theorem orb_len (f : Int → Int) : ∀ (k : Nat) (x : Int), (orb f k x).length = k + 1
  | 0, _ => rfl
  | k + 1, x => by simp [orb, orb_len f k x]
theorem orb_mem (f : Int → Int) : ∀ (k : Nat) (x y : Int), y ∈ orb f k x → ∃ m, m ≤ k ∧ y = iter f m x
  | 0, x, y, h => by
    simp only [orb, List.mem_singleton] at h
    exact ⟨0, Nat.le_refl _, h⟩
  | k + 1, x, y, h => by
    simp only [orb, List.mem_cons, List.mem_map] at h
    rcases h with rfl | ⟨z, hz, rfl⟩
    · exact ⟨0, by omega, rfl⟩
    · obtain ⟨m, hm, rfl⟩ := orb_mem f k x z hz
      exact ⟨m + 1, by omega, (iter_succ f m x).symm⟩
theorem map_nodup {n : Nat} {g : Int → Int} (hg : ∀ x y : Int, 0 ≤ x → x < n → 0 ≤ y → y < n → g x = g y → x = y) : ∀ q : List Int, (∀ x ∈ q, 0 ≤ x ∧ x < (n : Int)) → q.Nodup → (q.map g).Nodup
  | [], _, _ => List.nodup_nil
  | y :: q, hb, hn => by
    have hn2 := List.nodup_cons.1 hn
    rw [List.map_cons, List.nodup_cons]
    refine ⟨fun hm => ?_, map_nodup hg q (fun z hz => hb z (List.mem_cons_of_mem _ hz)) hn2.2⟩
    obtain ⟨z, hz, e⟩ := List.mem_map.1 hm
    have b1 := hb z (List.mem_cons_of_mem _ hz)
    have b2 := hb y List.mem_cons_self
    have := hg z y b1.1 b1.2 b2.1 b2.2 e
    subst this
    exact hn2.1 hz
theorem orb_few {n : Nat} {f : Int → Int} (hb : ∀ x : Int, 0 ≤ x → x < n → 0 ≤ f x ∧ f x < n) (hg : ∀ x y : Int, 0 ≤ x → x < n → 0 ≤ y → y < n → f x = f y → x = y) {x : Int} (h0 : 0 ≤ x) (h1 : x < n) : ∀ k : Nat, (∀ m, 1 ≤ m → m ≤ k → iter f m x ≠ x) → Few n (orb f k x)
  | 0, _ => ⟨by simp [orb], fun y hy => by simp only [orb, List.mem_singleton] at hy; subst hy; exact ⟨h0, h1⟩⟩
  | k + 1, h => by
    have ih := orb_few hb hg h0 h1 k (fun m a b => h m a (by omega))
    refine ⟨?_, fun y hy => ?_⟩
    · rw [orb, List.nodup_cons]
      refine ⟨fun hm => ?_, map_nodup hg _ ih.2 ih.1⟩
      obtain ⟨z, hz, e⟩ := List.mem_map.1 hm
      obtain ⟨m, hm2, rfl⟩ := orb_mem f k x z hz
      have e : f (iter f m x) = x := e
      rw [← iter_succ f m x] at e
      exact h (m + 1) (by omega) (by omega) e
    · obtain ⟨m, _, rfl⟩ := orb_mem f (k + 1) x y hy
      exact iter_bd hb m h0 h1
/-- A one-to-one step on n places comes back within n steps. -/
theorem iter_ret {n : Nat} {f : Int → Int} (hb : ∀ x : Int, 0 ≤ x → x < n → 0 ≤ f x ∧ f x < n) (hg : ∀ x y : Int, 0 ≤ x → x < n → 0 ≤ y → y < n → f x = f y → x = y) {x : Int} (h0 : 0 ≤ x) (h1 : x < n) : ∃ m, 1 ≤ m ∧ m ≤ n ∧ iter f m x = x := by
  refine Classical.byContradiction fun hc => ?_
  have := few_len (orb_few hb hg h0 h1 n (fun m a b e => hc ⟨m, a, b, e⟩))
  rw [orb_len] at this
  omega
/-! Names from a square; renaming. -/
theorem rd_memL {q : List Int} {x : Int} (x0 : 0 ≤ x) (x1 : x < q.length) : rd q x ∈ q := by
  have e : ((x.toNat : Nat) : Int) = x := by omega
  rw [← e, rd_get q x.toNat (by omega)]
  exact List.getElem_mem _
def reachK (r u : List Int) (k : Int) : List Int := bfs (nbT r u) (r.length + 1) [k] 0
theorem few_one {n : Nat} {k : Int} (k0 : 0 ≤ k) (k1 : k < n) : Few n [k] := ⟨by simp, fun x hx => by simp at hx; subst hx; exact ⟨k0, k1⟩⟩
theorem few_isPerm {q : List Int} {n : Nat} (hn : n ≤ 24) (h : Few n q) (hl : q.length = n) : isPerm q := ⟨by omega, fun x hx => by have := h.2 x hx; omega, h.1⟩
/-- What is closed under a permutation's steps is closed under its steps back. -/
theorem closed_back {p : List Int} (hp : isPerm p) {P : Int → Prop} (hP : ∀ x : Int, 0 ≤ x → x < p.length → P x → P (rd p x)) {x : Int} (x0 : 0 ≤ x) (x1 : x < p.length) (h : P (rd p x)) : P x := by
  obtain ⟨m, m1, hm⟩ : ∃ m, 0 < m ∧ iter (rd p) m x = x := by
    obtain ⟨p', p1, _, e⟩ := iter_ret (n := p.length) (f := rd p) (fun y y0 y1 => pm_in hp y0 y1) (fun a b a0 a1 b0 b1 e => pm_inj hp a0 a1 b0 b1 e) x0 x1
    exact ⟨p', p1, e⟩
  obtain ⟨m', rfl⟩ : ∃ m', m = m' + 1 := ⟨m - 1, by omega⟩
  have e : iter (rd p) m' (rd p x) = x := hm
  have b := pm_in hp x0 x1
  have key : ∀ j, P (iter (rd p) j (rd p x)) ∧ 0 ≤ iter (rd p) j (rd p x) ∧ iter (rd p) j (rd p x) < p.length := by
    intro j
    induction j with
    | zero => exact ⟨h, b.1, b.2⟩
    | succ j ih =>
      rw [iter_succ]
      exact ⟨hP _ ih.2.1 ih.2.2 ih.1, pm_in hp ih.2.1 ih.2.2⟩
  rw [← e]
  exact (key m').1
/-- From every square all are met. -/
theorem reachK_full {r u : List Int} (h : transB r u = true) {k : Int} (k0 : 0 ≤ k) (k1 : k < r.length) : Few r.length (reachK r u k) ∧ (reachK r u k).length = r.length := by
  obtain ⟨hr, hu, he, h0, hq⟩ := transB_side h
  obtain ⟨g1, g2, g3⟩ := reach_facts h
  have hnb : ∀ x : Int, 0 ≤ x → x < r.length → ∀ y ∈ nbT r u x, 0 ≤ y ∧ y < (r.length : Int) := fun x x0 x1 => nbT_lt hr hu he x0 x1
  have hf : Few r.length (reachK r u k) := bfs_few (nbT r u) (fun x x0 x1 y hy => (hnb x x0 x1 y hy).2) _ [k] 0 (few_one k0 k1)
  have hc := bfs_closed (n := r.length) (nbT r u) (fun x x0 x1 y hy => (hnb x x0 x1 y hy).2) (r.length + 1) [k] 0 (few_one k0 k1) (by omega) (fun j hj hji => absurd hji (Nat.not_lt_zero _))
  have hk : k ∈ reachK r u k := by
    obtain ⟨s, hs⟩ := bfs_pre (nbT r u) (r.length + 1) [k] 0
    unfold reachK
    rw [hs]
    simp
  have c1 : ∀ x : Int, 0 ≤ x → x < r.length → x ∈ reachK r u k → rd r x ∈ reachK r u k := fun x x0 x1 hx => hc x hx _ (by simp [nbT]) (pm_in hr x0 x1).1
  have c2 : ∀ x : Int, 0 ≤ x → x < u.length → x ∈ reachK r u k → rd u x ∈ reachK r u k := fun x x0 x1 hx => hc x hx _ (by simp [nbT]) (pm_in hu x0 x1).1
  have n1 : ∀ x : Int, 0 ≤ x → x < r.length → x ∉ reachK r u k → rd r x ∉ reachK r u k := fun x x0 x1 hx hm => hx (closed_back hr c1 x0 x1 hm)
  have n2 : ∀ x : Int, 0 ≤ x → x < u.length → x ∉ reachK r u k → rd u x ∉ reachK r u k := fun x x0 x1 hx hm => hx (closed_back hu c2 x0 x1 hm)
  have z : (0 : Int) ∈ reachK r u k := by
    refine Classical.byContradiction fun hz => ?_
    have all := bfs_sub (nbT r u) (fun x => (0 ≤ x ∧ x < (r.length : Int)) ∧ x ∉ reachK r u k) (fun x hx y hy _ => by
      refine ⟨hnb x hx.1.1 hx.1.2 y hy, ?_⟩
      simp only [nbT, List.mem_cons, List.not_mem_nil, or_false] at hy
      rcases hy with rfl | rfl
      · exact n1 x hx.1.1 hx.1.2 hx.2
      · exact n2 x hx.1.1 (by omega) hx.2) (r.length + 1) [0] 0 (fun x hx => by simp at hx; subst hx; exact ⟨⟨by omega, by omega⟩, hz⟩)
    exact (all k (g2 k k0 k1)).2 hk
  have full : ∀ x : Int, 0 ≤ x → x < r.length → x ∈ reachK r u k := fun x x0 x1 =>
    bfs_sub (nbT r u) (fun x => x ∈ reachK r u k) (fun x hx y hy y0 => hc x hx y hy y0) (r.length + 1) [0] 0 (fun x hx => by simp at hx; subst hx; exact z) x (g2 x x0 x1)
  refine ⟨hf, ?_⟩
  have hl := few_len hf
  refine Nat.le_antisymm hl (Nat.le_of_not_lt fun hlt => ?_)
  have hp := few_isPerm hr.1 g1 (by
    have := hq
    exact this)
  have hle : (reachOf r u).length ≤ (reachK r u k).length := by
    have hs : ∀ x ∈ reachOf r u, x ∈ reachK r u k := fun x hx => full x (g1.2 x hx).1 (g1.2 x hx).2
    have key : ∀ (a b : List Int), a.Nodup → (∀ x ∈ a, x ∈ b) → a.length ≤ b.length := by
      intro a
      induction a with
      | nil => intro b _ _; simp
      | cons x a ih =>
        intro b hn hs
        obtain ⟨b1, b2, rfl⟩ := List.append_of_mem (hs x (by simp))
        have hx := List.nodup_cons.1 hn
        have := ih (b1 ++ b2) hx.2 (fun y hy => by
          have := hs y (List.mem_cons_of_mem _ hy)
          simp only [List.mem_append, List.mem_cons] at this ⊢
          rcases this with h | h | h
          · exact .inl h
          · subst h; exact absurd hy hx.1
          · exact .inr h)
        simp only [List.length_append, List.length_cons] at this ⊢
        omega
    exact key _ _ g1.1 hs
  omega
def namesOf (r u : List Int) (k : Int) : List Int := invL (reachK r u k)
theorem reachK_perm {r u : List Int} (h : transB r u = true) {k : Int} (k0 : 0 ≤ k) (k1 : k < r.length) : isPerm (reachK r u k) := by
  have hf := reachK_full h k0 k1
  exact few_isPerm (transB_side h).1.1 hf.1 hf.2
theorem names_perm {r u : List Int} (h : transB r u = true) {k : Int} (k0 : 0 ≤ k) (k1 : k < r.length) : isPerm (namesOf r u k) ∧ (namesOf r u k).length = r.length := by
  have hp := reachK_perm h k0 k1
  have hf := reachK_full h k0 k1
  exact ⟨inv_perm hp, by unfold namesOf; rw [invL_len hp, hf.2]⟩
/-! The program's: the numbers as they are met. -/
def numI (n : Nat) (q : List Int) : List Int := (List.range n).map fun (z : Nat) => if (z : Int) ∈ q then ((q.idxOf (z : Int) : Nat) : Int) else -1
theorem numI_len (n : Nat) (q : List Int) : (numI n q).length = n := by simp [numI]
theorem numI_rd (n : Nat) (q : List Int) {z : Int} (z0 : 0 ≤ z) (z1 : z < n) : rd (numI n q) z = if z ∈ q then ((q.idxOf z : Nat) : Int) else -1 := by
  have e : ((z.toNat : Nat) : Int) = z := by omega
  simp [rd, numI, List.getD, show z.toNat < n by omega, e]
theorem numI_push (n : Nat) (q : List Int) {x : Int} (x0 : 0 ≤ x) (x1 : x < n) (hx : x ∉ q) : (numI n q).set x.toNat (q.length : Int) = numI n (q ++ [x]) := by
  refine rd_ext (by simp [numI]) (fun z z0 z1 => ?_)
  rw [List.length_set, numI_len] at z1
  rw [numI_rd n _ z0 z1]
  by_cases e : z = x
  · subst e
    rw [rdS_same x0 (by rw [numI_len]; exact x1), if_pos (by simp), List.idxOf_append, if_neg hx]
    simp
  · rw [rdS_ne x0 z0 e, numI_rd n q z0 z1]
    by_cases hz : z ∈ q
    · rw [if_pos hz, if_pos (List.mem_append_left _ hz), List.idxOf_append, if_pos hz]
    · rw [if_neg hz, if_neg (by simp [hz, e])]
theorem numI_full {n : Nat} {q : List Int} (hq : isPerm q) (hl : q.length = n) : numI n q = invL q := by
  refine rd_ext (by rw [numI_len, invL_len hq, hl]) (fun z z0 z1 => ?_)
  rw [numI_len] at z1
  have hz := inv_right hq z0 (by omega)
  have hm : z ∈ q := by
    have := rd_memL (q := q) hz.2.1 (by omega)
    rwa [hz.1] at this
  rw [numI_rd n q z0 z1, if_pos hm]
  have hi : q.idxOf z < q.length := List.idxOf_lt_length_of_mem hm
  have e : rd q ((q.idxOf z : Nat) : Int) = z := by rw [rd_get q _ hi]; exact List.getElem_idxOf hi
  exact pm_inj hq (by omega) (by omega) hz.2.1 hz.2.2 (by rw [e, hz.1])
theorem impl_names_l2 (rr u : List Int) (n : Nat) (hn : n ≤ 24) (x8 : Int) (hx : 0 ≤ x8 ∧ x8 ≤ 1000) (ys : List Int) (hy : ys.length ≤ 1000) (r : List Int) : ∀ (suf pre q : List Int), ys = pre ++ suf → Few n q → (∀ k ∈ suf, 0 ≤ k ∧ k < (n : Int)) →
    Ev (fun k => impl_NamesFrom.l1 k (numI n (pushAll q suf)) (pushAll q suf) (x8 + 1) rr u) r → Ev (fun k => impl_NamesFrom.l2 k (numI n q) q x8 ys (ys.length : Int) (pre.length : Int) rr u) r := by
  intro suf
  induction suf with
  | nil =>
    intro pre q h hq hk hr
    subst h
    refine ev_up ?_
    simp only [impl_NamesFrom.l2, if_neg (nlt_end pre), pw_wrap (a := x8 + 1) (by omega) (by omega)]
    exact hr
  | cons c suf ih =>
    intro pre q h hq hk hr
    have hc := hk c (by simp)
    have hf := few_push hq hc.2
    have hi := ih (pre ++ [c]) (push q c) (by simp [h]) hf (fun k h' => hk k (by simp [h'])) hr
    subst h
    have hql := few_len hq
    refine ev_up ?_
    simp only [impl_NamesFrom.l2, if_pos (lt_mid pre suf c), if_pos (Int.natCast_nonneg pre.length), rd_mid, wrap_snoc (x := c) (s := suf) (p := pre) (by simp at hy ⊢; omega), if_pos hc.1, numI_len, if_pos hc.2, numI_rd n q hc.1 hc.2]
    by_cases hm : c ∈ q
    · simp only [if_pos hm, if_neg (show ¬ ((q.idxOf c : Nat) : Int) < 0 by omega)]
      unfold push at hi
      rw [if_neg (fun h => h.2 hm)] at hi
      exact hi
    · simp only [if_neg hm, if_pos (show (-1 : Int) < 0 by omega), if_pos (show q.length < 17592186044416 by omega), numI_push n q hc.1 hc.2 hm]
      unfold push at hi
      rw [if_pos ⟨hc.1, hm⟩] at hi
      exact hi
theorem impl_names_l1 {rr u : List Int} (hr : isPerm rr) (hu : isPerm u) (he : rr.length = u.length) : ∀ (f : Nat) (q : List Int) (i : Nat), Few rr.length q → i ≤ q.length → f + i = rr.length + 1 →
    Ev (fun k => impl_NamesFrom.l1 k (numI rr.length q) q (i : Int) rr u) (numI rr.length (bfs (nbT rr u) f q i)) := by
  intro f
  have hn := hr.1
  induction f with
  | zero =>
    intro q i hq hi hf
    have := few_len hq
    omega
  | succ f ih =>
    intro q i hq hi hf
    have hql := few_len hq
    refine ev_up ?_
    by_cases h : i < q.length
    · have hx := hq.2 _ (List.getElem_mem h)
      simp only [impl_NamesFrom.l1, if_pos (show ((i : Nat) : Int) < (q.length : Int) by omega), if_pos (Int.natCast_nonneg i), rd_get q i h, if_pos hx.1, if_pos hx.2, if_pos (show q[i] < (u.length : Int) by omega), Option.bind_some]
      have hlt := nbT_lt hr hu he hx.1 hx.2
      have hp := few_pushAll _ q hq (fun k hk => (hlt k hk).2)
      have := ih _ (i + 1) hp.1 (by have := hp.2; omega) (by omega)
      rw [bfs, dif_pos h]
      exact impl_names_l2 rr u rr.length hn i (by omega) (nbT rr u q[i]) (by simp [nbT]) _ _ [] q rfl hq hlt this
    · simp only [impl_NamesFrom.l1, if_neg (show ¬ ((i : Nat) : Int) < (q.length : Int) by omega)]
      rw [bfs_done _ _ _ _ h]
      exact Ev.now _
theorem impl_names_l0 (r u : List Int) (n : Nat) (hn : n ≤ 24) {k : Int} (k0 : 0 ≤ k) (k1 : k < n) (res : List Int) : ∀ (d : Nat) (i : Int) (a : List Int), 0 ≤ i → i + d = n → a.length = n → (∀ z : Int, 0 ≤ z → z < i → rd a z = -1) →
    Ev (fun j => impl_NamesFrom.l1 j (numI n [k]) [k] 0 r u) res → Ev (fun j => impl_NamesFrom.l0 j k a (n : Int) i r u) res
  | 0, i, a, i0, hi, ha, hz, hr => by
    have e : a = numI n [] := rd_ext (by rw [numI_len, ha]) (fun x x0 x1 => by
      rw [hz x x0 (by omega), numI_rd n [] x0 (by omega)]
      simp)
    subst e
    have e2 := numI_push n [] k0 k1 (by simp)
    refine ev_up ?_
    simp only [impl_NamesFrom.l0, if_neg (show ¬ i < (n : Int) by omega), if_pos k0, numI_len, if_pos k1]
    have e3 : (numI n []).set k.toNat 0 = numI n [k] := e2
    rw [e3]
    exact hr
  | d + 1, i, a, i0, hi, ha, hz, hr => by
    refine ev_up ?_
    simp only [impl_NamesFrom.l0, if_pos (show i < (n : Int) by omega), if_pos i0, if_pos (show i < (a.length : Int) by omega), pw_wrap (a := i + 1) (by omega) (by omega)]
    refine impl_names_l0 r u n hn k0 k1 res d (i + 1) _ (by omega) (by omega) (by simpa using ha) (fun z z0 z1 => ?_) hr
    by_cases e : z = i
    · subst e
      exact rdS_same z0 (by omega)
    · rw [rdS_ne i0 z0 e]
      exact hz z z0 (by omega)
theorem impl_names {r u : List Int} (h : transB r u = true) {k : Int} (k0 : 0 ≤ k) (k1 : k < r.length) : Ev (fun j => impl_NamesFrom.f j r u k) (namesOf r u k) := by
  obtain ⟨hr, hu, he, h0, _⟩ := transB_side h
  have hn := hr.1
  have hf := reachK_full h k0 k1
  unfold impl_NamesFrom.f
  refine Ev.bind (impl_surfOk r u) ?_
  simp only [if_pos h, if_neg (show ¬ k < 0 by omega), decide_eq_false (show ¬ k ≥ (r.length : Int) by omega)]
  refine ev_up ?_
  simp only [impl_NamesFrom.j0, Bool.false_eq_true, if_false, if_pos (Int.natCast_nonneg r.length), Int.toNat_natCast, if_pos (show r.length ≤ 35184372088832 by omega), Option.bind_some, List.length_replicate]
  refine impl_names_l0 r u r.length hn k0 k1 _ r.length 0 _ (by omega) (by omega) (by simp) (fun z z0 z1 => by omega) ?_
  have e : namesOf r u k = numI r.length (reachK r u k) := (numI_full (reachK_perm h k0 k1) hf.2).symm
  rw [e]
  exact impl_names_l1 hr hu he (r.length + 1) [k] 0 (few_one k0 k1) (by simp) (by omega)
/-! Renaming. -/
def renGo (p nm : List Int) : Nat → Int → List Int → List Int
  | 0, _, out => out
  | d + 1, i, out => renGo p nm d (i + 1) (out.set (rd nm i).toNat (rd nm (rd p i)))
def renL (p nm : List Int) : List Int := renGo p nm p.length 0 (List.replicate p.length 0)
theorem renGo_spec {p nm : List Int} (hp : isPerm p) (hm : isPerm nm) (he : nm.length = p.length) : ∀ (d : Nat) (i : Int) (out : List Int), 0 ≤ i → i + d = p.length → out.length = p.length → (∀ j : Int, 0 ≤ j → j < i → rd out (rd nm j) = rd nm (rd p j)) →
    (renGo p nm d i out).length = p.length ∧ ∀ j : Int, 0 ≤ j → j < p.length → rd (renGo p nm d i out) (rd nm j) = rd nm (rd p j)
  | 0, i, out, i0, hi, ho, hj => ⟨ho, fun j j0 j1 => hj j j0 (by omega)⟩
  | d + 1, i, out, i0, hi, ho, hj => by
    have b := pm_in hm i0 (show i < nm.length by omega)
    rw [renGo]
    refine renGo_spec hp hm he d (i + 1) _ (by omega) (by omega) (by simpa using ho) (fun j j0 j1 => ?_)
    by_cases e : j = i
    · subst e
      exact rdS_same b.1 (by omega)
    · have c := pm_in hm j0 (show j < nm.length by omega)
      rw [rdS_ne b.1 c.1 (fun q => e (pm_inj hm j0 (by omega) i0 (by omega) q))]
      exact hj j j0 (by omega)
theorem renL_len {p nm : List Int} (hp : isPerm p) (hm : isPerm nm) (he : nm.length = p.length) : (renL p nm).length = p.length := (renGo_spec hp hm he p.length 0 _ (by omega) (by omega) (by simp) (fun j j0 j1 => by omega)).1
theorem renL_rd {p nm : List Int} (hp : isPerm p) (hm : isPerm nm) (he : nm.length = p.length) {j : Int} (j0 : 0 ≤ j) (j1 : j < p.length) : rd (renL p nm) (rd nm j) = rd nm (rd p j) := (renGo_spec hp hm he p.length 0 _ (by omega) (by omega) (by simp) (fun j j0 j1 => by omega)).2 j j0 j1
theorem renL_perm {p nm : List Int} (hp : isPerm p) (hm : isPerm nm) (he : nm.length = p.length) : isPerm (renL p nm) := by
  have hl := renL_len hp hm he
  have val : ∀ x : Int, 0 ≤ x → x < p.length → ∃ j : Int, 0 ≤ j ∧ j < p.length ∧ x = rd nm j ∧ rd (renL p nm) x = rd nm (rd p j) := fun x x0 x1 => by
    obtain ⟨j, j0, j1, rfl⟩ := pm_sur hm x0 (by omega)
    exact ⟨j, j0, by omega, rfl, renL_rd hp hm he j0 (by omega)⟩
  have hn := hp.1
  refine pm_of (by omega) (fun x x0 x1 => ?_) (fun x y x0 x1 y0 y1 e => ?_)
  · obtain ⟨j, j0, j1, _, e⟩ := val x x0 (by omega)
    have b := pm_in hp j0 j1
    have c := pm_in hm b.1 (by omega)
    rw [e]
    omega
  · obtain ⟨j, j0, j1, rfl, ex⟩ := val x x0 (by omega)
    obtain ⟨l, l0, l1, rfl, ey⟩ := val y y0 (by omega)
    rw [ex, ey] at e
    have b := pm_in hp j0 j1
    have c := pm_in hp l0 l1
    rw [pm_inj hp j0 j1 l0 l1 (pm_inj hm b.1 (by omega) c.1 (by omega) e)]
theorem impl_ren_l0 {p nm : List Int} (hp : isPerm p) (hm : isPerm nm) (he : nm.length = p.length) : ∀ (d : Nat) (i : Int) (out : List Int), 0 ≤ i → i + d = p.length → out.length = p.length → Ev (fun k => impl_RenamePerm.l0 k nm out p (p.length : Int) i) (renGo p nm d i out)
  | 0, i, out, i0, hi, ho => by
    refine ev_up ?_
    simp only [impl_RenamePerm.l0, if_neg (show ¬ i < (p.length : Int) by omega)]
    exact Ev.now _
  | d + 1, i, out, i0, hi, ho => by
    have hn := hp.1
    have i1 : i < p.length := by omega
    have b := pm_in hp i0 i1
    have c := pm_in hm i0 (show i < nm.length by omega)
    refine ev_up ?_
    simp only [impl_RenamePerm.l0, if_pos i1, if_pos i0, if_pos (show i < (nm.length : Int) by omega), if_pos b.1, if_pos (show rd p i < (nm.length : Int) by omega), if_pos c.1, if_pos (show rd nm i < (out.length : Int) by omega), pw_wrap (a := i + 1) (by omega) (by omega)]
    rw [renGo]
    exact impl_ren_l0 hp hm he d (i + 1) _ (by omega) (by omega) (by simpa using ho)
theorem impl_ren {p nm : List Int} (hp : isPerm p) (hm : isPerm nm) (he : nm.length = p.length) : Ev (fun k => impl_RenamePerm.f k p nm) (renL p nm) := by
  have hn := hp.1
  unfold impl_RenamePerm.f
  simp only [impl_PermOk.f, (permB_iff p).2 hp, (permB_iff nm).2 hm, Option.bind_some, if_true, show ((p.length : Int) != (nm.length : Int)) = false by rw [bne_eq_false_iff_eq]; omega]
  refine ev_up ?_
  simp only [impl_RenamePerm.j0, Bool.false_eq_true, if_false, if_pos (Int.natCast_nonneg p.length), Int.toNat_natCast, if_pos (show p.length ≤ 35184372088832 by omega)]
  exact impl_ren_l0 hp hm he p.length 0 _ (by omega) (by omega) (by simp)
theorem impl_renS {r u nm : List Int} (h : transB r u = true) (hm : isPerm nm) (he : nm.length = r.length) : Ev (fun k => impl_RenameSurface.f k r u nm) (renL r nm, renL u nm, true) := by
  obtain ⟨hr, hu, he2, h0, _⟩ := transB_side h
  unfold impl_RenameSurface.f
  refine Ev.bind (impl_surfOk r u) ?_
  simp only [if_pos h, impl_PermOk.f, (permB_iff nm).2 hm, Option.bind_some, if_true, show ((nm.length : Int) != (r.length : Int)) = false by rw [bne_eq_false_iff_eq]; omega]
  refine ev_up ?_
  simp only [impl_RenameSurface.j0, Bool.false_eq_true, if_false]
  refine Ev.bind (impl_ren hr hm he) ?_
  refine Ev.bind (impl_ren hu hm (by omega)) ?_
  exact Ev.now _

/-! Canonical forms. -/
theorem spec_names {r u : List Int} (h : transB r u = true) {k : Int} (k0 : 0 ≤ k) (k1 : k < r.length) : Ev (fun j => spec_l03Names.f j r u k) (namesOf r u k) := by
  obtain ⟨hr, hu, he, h0, _⟩ := transB_side h
  unfold spec_l03Names.f
  refine Ev.bind (a := reachK r u k) ?_ ?_
  · unfold spec_l02Reach.f
    exact spec_reach_l0 hr hu he _ [k] 0 (few_one k0 k1) (by simp) (by omega)
  · exact Ev.bind (spec_inv (reachK_perm h k0 k1)) (Ev.now _)
theorem spec_ren_l0 {p nm : List Int} (hp : isPerm p) (hm : isPerm nm) (he : nm.length = p.length) : ∀ (d : Nat) (i : Int) (out : List Int), 0 ≤ i → i + d = p.length → out.length = p.length → Ev (fun k => spec_l02Rename.l0 k nm out p (p.length : Int) i) (renGo p nm d i out)
  | 0, i, out, i0, hi, ho => by
    refine ev_up ?_
    simp only [spec_l02Rename.l0, if_neg (show ¬ i < (p.length : Int) by omega)]
    exact Ev.now _
  | d + 1, i, out, i0, hi, ho => by
    have hn := hp.1
    have i1 : i < p.length := by omega
    have b := pm_in hp i0 i1
    have c := pm_in hm i0 (show i < nm.length by omega)
    refine ev_up ?_
    simp only [spec_l02Rename.l0, if_pos i1, if_pos i0, if_pos (show i < (nm.length : Int) by omega), if_pos b.1, if_pos (show rd p i < (nm.length : Int) by omega), if_pos c.1, if_pos (show rd nm i < (out.length : Int) by omega), pw_wrap (a := i + 1) (by omega) (by omega)]
    rw [renGo]
    exact spec_ren_l0 hp hm he d (i + 1) _ (by omega) (by omega) (by simpa using ho)
theorem spec_ren {p nm : List Int} (hp : isPerm p) (hm : isPerm nm) (he : nm.length = p.length) : Ev (fun k => spec_l02Rename.f k p nm) (renL p nm) := by
  have hn := hp.1
  unfold spec_l02Rename.f
  simp only [if_pos (Int.natCast_nonneg p.length), Int.toNat_natCast, if_pos (show p.length ≤ 35184372088832 by omega)]
  exact spec_ren_l0 hp hm he p.length 0 _ (by omega) (by omega) (by simp)
abbrev Sf := S27
/-- The surface with names from a square. -/
def renS (r u : List Int) (k : Int) : Sf := ⟨renL r (namesOf r u k), renL u (namesOf r u k)⟩
theorem renS_len {r u : List Int} (h : transB r u = true) {k : Int} (k0 : 0 ≤ k) (k1 : k < r.length) : (renS r u k).f0.length = r.length ∧ (renS r u k).f1.length = r.length := by
  obtain ⟨hr, hu, he, h0, _⟩ := transB_side h
  have hm := names_perm h k0 k1
  exact ⟨renL_len hr hm.1 hm.2, by rw [he]; exact renL_len hu hm.1 (by omega)⟩
theorem spec_renS {r u : List Int} (h : transB r u = true) {k : Int} (k0 : 0 ≤ k) (k1 : k < r.length) : Ev (fun j => spec_l03Rename.f j r u (namesOf r u k)) ((renS r u k).f0, (renS r u k).f1) := by
  obtain ⟨hr, hu, he, h0, _⟩ := transB_side h
  have hm := names_perm h k0 k1
  unfold spec_l03Rename.f
  refine Ev.bind (spec_ren hr hm.1 hm.2) ?_
  refine Ev.bind (spec_ren hu hm.1 (by omega)) ?_
  exact Ev.now _
/-- All of them, from a square on. -/
def namedG (r u : List Int) : Nat → Int → List Sf
  | 0, _ => []
  | d + 1, i => renS r u i :: namedG r u d (i + 1)
def namedL (r u : List Int) : List Sf := if transB r u = true then namedG r u r.length 0 else []
theorem namedG_len (r u : List Int) : ∀ (d : Nat) (i : Int), (namedG r u d i).length = d
  | 0, _ => rfl
  | d + 1, i => by simp [namedG, namedG_len r u d]
theorem namedG_in {r u : List Int} (h : transB r u = true) : ∀ (d : Nat) (i : Int), 0 ≤ i → i + d ≤ r.length → ∀ x ∈ namedG r u d i, x.f0.length = r.length ∧ x.f1.length = r.length
  | 0, _, _, _, x, hx => absurd hx (by simp [namedG])
  | d + 1, i, i0, hi, x, hx => by
    rcases List.mem_cons.1 hx with rfl | hx
    · exact renS_len h i0 (by omega)
    · exact namedG_in h d (i + 1) (by omega) (by omega) x hx
theorem impl_squaresN {r u : List Int} (h : transB r u = true) : Ev (fun k => impl_CountSquares.f k r u) (r.length : Int) := by
  unfold impl_CountSquares.f
  refine Ev.bind (impl_surfOk r u) ?_
  simp only [if_pos h]
  exact Ev.now _
theorem impl_named_l0 {r u : List Int} (h : transB r u = true) : ∀ (d : Nat) (i : Int) (out : List Sf), 0 ≤ i → i + d = r.length → out.length + d ≤ 1000 → Ev (fun k => impl_namedFrom.l0 k out i r u) (out ++ namedG r u d i)
  | 0, i, out, i0, hi, ho => by
    refine ev_up ?_
    simp only [impl_namedFrom.l0]
    refine Ev.bind (impl_squaresN h) ?_
    simp only [if_neg (show ¬ i < (r.length : Int) by omega), namedG, List.append_nil]
    exact Ev.now _
  | d + 1, i, out, i0, hi, ho => by
    have hn := (transB_side h).1.1
    have i1 : i < r.length := by omega
    have hm := names_perm h i0 i1
    refine ev_up ?_
    simp only [impl_namedFrom.l0]
    refine Ev.bind (impl_squaresN h) ?_
    simp only [if_pos i1]
    refine Ev.bind (impl_names h i0 i1) ?_
    refine Ev.bind (impl_renS h hm.1 hm.2) ?_
    simp only [if_pos (show out.length < 2932031007402 by omega), pw_wrap (a := i + 1) (by omega) (by omega)]
    have ih := impl_named_l0 h d (i + 1) (out ++ [renS r u i]) (by omega) (by omega) (by simp; omega)
    rw [List.append_assoc] at ih
    exact ih
theorem impl_named (r u : List Int) : Ev (fun k => impl_namedFrom.f k r u) (namedL r u) := by
  unfold impl_namedFrom.f namedL
  by_cases h : transB r u = true
  · rw [if_pos h]
    have hn := (transB_side h).1.1
    have := impl_named_l0 h r.length 0 [] (by omega) (by omega) (by simp; omega)
    simpa using this
  · rw [if_neg h]
    refine ev_up ?_
    simp only [impl_namedFrom.l0]
    refine Ev.bind (a := 0) ?_ ?_
    · unfold impl_CountSquares.f
      refine Ev.bind (impl_surfOk r u) ?_
      simp only [if_neg h]
      exact Ev.now _
    · simp only [if_neg (show ¬ (0 : Int) < 0 by omega)]
      exact Ev.now _
/-! Comparing. -/
def cmpL : List Int → List Int → Int
  | [], [] => 0
  | [], _ :: _ => -1
  | _ :: _, [] => 1
  | x :: a, y :: b => if x < y then -1 else if x > y then 1 else cmpL a b
theorem impl_cmp (x y : Int) : cmp_Compare_int.f x y = some (if x < y then -1 else if x > y then 1 else 0) := by
  unfold cmp_Compare_int.f cmp_isNaN_int.f
  by_cases c : x < y
  · simp [c]
  · by_cases d : x > y
    · simp [c, d]
    · simp [c, d]
theorem impl_cmp_l0 (a b : List Int) (ha : a.length ≤ 1000) : ∀ (sa pa sb pb : List Int), a = pa ++ sa → b = pb ++ sb → pa.length = pb.length → Ev (fun k => slices_Compare_int_int.l0 k a b a (a.length : Int) (pa.length : Int)) (cmpL sa sb)
  | [], pa, sb, pb, ea, eb, hl => by
    have e2 : a = pa := by simpa using ea
    subst e2
    refine ev_up ?_
    simp only [slices_Compare_int_int.l0, if_neg (show ¬ ((a.length : Int) < a.length) by omega)]
    have hb : b.length = pb.length + sb.length := by rw [eb]; simp
    cases sb with
    | nil =>
      simp only [if_neg (show ¬ ((a.length : Int) < (b.length : Int)) by simp at hb; omega), cmpL]
      exact Ev.now _
    | cons y sb =>
      simp only [if_pos (show ((a.length : Int) < (b.length : Int)) by simp at hb; omega), cmpL]
      exact Ev.now _
  | x :: sa, pa, sb, pb, ea, eb, hl => by
    have hlen : a.length = pa.length + sa.length + 1 := by rw [ea]; simp; omega
    have hx : rd a (pa.length : Int) = x := by rw [ea]; exact rd_mid _ _ _
    have hb : b.length = pb.length + sb.length := by rw [eb]; simp
    have hw : wrap64 ((pa.length : Int) + 1) = ((pa ++ [x]).length : Int) := by rw [pw_wrap (by omega) (by omega)]; simp
    refine ev_up ?_
    simp only [slices_Compare_int_int.l0, if_pos (show ((pa.length : Int) < a.length) by omega), if_pos (Int.natCast_nonneg pa.length), hx, hw]
    cases sb with
    | nil =>
      simp only [if_pos (show (pa.length : Int) ≥ (b.length : Int) by simp at hb; omega), cmpL]
      exact Ev.now _
    | cons y sb =>
      have hy : rd b (pa.length : Int) = y := by rw [eb, hl]; exact rd_mid _ _ _
      have hbl : (pa.length : Int) < (b.length : Int) := by simp at hb; omega
      simp only [if_neg (show ¬ (pa.length : Int) ≥ (b.length : Int) by omega), if_pos hbl, hy, impl_cmp, Option.bind_some, cmpL]
      by_cases c : x < y
      · simp only [if_pos c, if_neg (show ¬ (-1 : Int) = 0 by omega)]
        exact Ev.now _
      · by_cases d : x > y
        · simp only [if_neg c, if_pos d, if_neg (show ¬ (1 : Int) = 0 by omega)]
          exact Ev.now _
        · simp only [if_neg c, if_neg d, if_true]
          exact impl_cmp_l0 a b ha sa (pa ++ [x]) sb (pb ++ [y]) (by simp [ea]) (by simp [eb]) (by simp [hl])
theorem impl_cmpL (a b : List Int) (ha : a.length ≤ 1000) : Ev (fun k => slices_Compare_int_int.f k a b) (cmpL a b) := impl_cmp_l0 a b ha a [] b [] rfl rfl rfl
theorem cmpL_zero : ∀ a b : List Int, cmpL a b = 0 ↔ a = b
  | [], [] => by simp [cmpL]
  | [], _ :: _ => by simp [cmpL]
  | _ :: _, [] => by simp [cmpL]
  | x :: a, y :: b => by
    rw [cmpL]
    by_cases c : x < y
    · rw [if_pos c]
      simp
      intro e
      omega
    · by_cases d : x > y
      · rw [if_neg c, if_pos d]
        simp
        intro e
        omega
      · rw [if_neg c, if_neg d, cmpL_zero a b]
        have : x = y := by omega
        simp [this]
def cmpS (x y : Sf) : Int := if cmpL x.f0 y.f0 = 0 then cmpL x.f1 y.f1 else cmpL x.f0 y.f0
theorem impl_cmpS (x y : Sf) (h0 : x.f0.length ≤ 1000) (h1 : x.f1.length ≤ 1000) : Ev (fun k => impl_compareSurfaces.f k x.f0 x.f1 y.f0 y.f1) (cmpS x y) := by
  unfold impl_compareSurfaces.f cmpS
  refine Ev.bind (impl_cmpL _ _ h0) ?_
  by_cases c : cmpL x.f0 y.f0 = 0
  · simp only [if_pos c]
    exact Ev.bind (impl_cmpL _ _ h1) (Ev.now _)
  · simp only [if_neg c]
    exact Ev.now _
def minS (m : Sf) (l : List Sf) : Sf := l.foldl (fun m x => if cmpS x m < 0 then x else m) m
theorem impl_minGo : ∀ (l : List Sf) (m : Sf), (∀ x ∈ l, x.f0.length ≤ 1000 ∧ x.f1.length ≤ 1000) → Ev (fun k => minGo k m l) (minS m l)
  | [], m, _ => Ev.now _
  | x :: l, m, h => by
    have hx := h x List.mem_cons_self
    refine Ev.congr (f := fun k => (impl_compareSurfaces.f k x.f0 x.f1 m.f0 m.f1).bind fun c => minGo k (if c < 0 then x else m) l) (fun k => rfl) ?_
    refine Ev.bind (impl_cmpS x m hx.1 hx.2) ?_
    exact impl_minGo l _ (fun y hy => h y (List.mem_cons_of_mem _ hy))
def canonS (r u : List Int) : Sf := minS (renS r u 0) (namedG r u (r.length - 1) 1)
theorem minS_len {n : Nat} : ∀ (l : List Sf) (m : Sf), m.f0.length = n ∧ m.f1.length = n → (∀ x ∈ l, x.f0.length = n ∧ x.f1.length = n) → (minS m l).f0.length = n ∧ (minS m l).f1.length = n
  | [], m, hm, _ => hm
  | x :: l, m, hm, h => by
    show (minS (if cmpS x m < 0 then x else m) l).f0.length = n ∧ _
    refine minS_len l _ ?_ (fun y hy => h y (List.mem_cons_of_mem _ hy))
    split
    · exact h x List.mem_cons_self
    · exact hm
theorem canonS_len {r u : List Int} (h : transB r u = true) : (canonS r u).f0.length = r.length ∧ (canonS r u).f1.length = r.length := by
  have h0 := (transB_side h).2.2.2.1
  exact minS_len _ _ (renS_len h (by omega) (by omega)) (namedG_in h _ 1 (by omega) (by omega))
theorem named_cons {r u : List Int} (h : transB r u = true) : namedL r u = renS r u 0 :: namedG r u (r.length - 1) 1 := by
  have h0 := (transB_side h).2.2.2.1
  unfold namedL
  rw [if_pos h]
  obtain ⟨m, hm⟩ : ∃ m, r.length = m + 1 := ⟨r.length - 1, by omega⟩
  rw [hm, namedG]
  rfl
def canonR (r u : List Int) : List Int × List Int × Bool := if transB r u = true then ((canonS r u).f0, (canonS r u).f1, true) else ([], [], false)
theorem impl_canon (r u : List Int) : Ev (fun k => impl_CanonOf.f k r u) (canonR r u) := by
  unfold impl_CanonOf.f canonR
  refine Ev.bind (impl_named r u) ?_
  by_cases h : transB r u = true
  · have hn := (transB_side h).1.1
    have hl : (namedL r u).length = r.length := by unfold namedL; rw [if_pos h, namedG_len]
    rw [if_pos h]
    simp only [if_pos (show (namedL r u).length ≤ 1000 by omega)]
    have hc := named_cons h
    rw [hc]
    simp only [if_neg (show ¬ (renS r u 0 :: namedG r u (r.length - 1) 1) = [] by simp)]
    have e0 : rd_T27 (renS r u 0 :: namedG r u (r.length - 1) 1) 0 = renS r u 0 := rfl
    rw [e0]
    refine Ev.bind (a := canonS r u) ?_ (Ev.now _)
    refine impl_minGo _ _ (fun x hx => ?_)
    have := namedG_in h (r.length - 1) 1 (by omega) (by have := (transB_side h).2.2.2.1; omega) x hx
    omega
  · have hl : namedL r u = [] := by unfold namedL; rw [if_neg h]
    rw [if_neg h, hl]
    simp only [List.length_nil, if_pos (show 0 ≤ 1000 by omega), if_true]
    exact Ev.now _
/-! The reference's. -/
def lessL : List Int → List Int → Bool
  | x :: a, y :: b => if x = y then lessL a b else decide (x < y)
  | _, _ => false
theorem less_cmp : ∀ a b : List Int, a.length = b.length → lessL a b = decide (cmpL a b < 0)
  | [], [], _ => by simp [lessL, cmpL]
  | [], _ :: _, h => by simp at h
  | _ :: _, [], h => by simp at h
  | x :: a, y :: b, h => by
    have ih := less_cmp a b (by simpa using h)
    rw [lessL, cmpL]
    by_cases c : x < y
    · rw [if_neg (show ¬ x = y by omega), if_pos c]
      simp [c]
    · by_cases d : x > y
      · rw [if_neg (show ¬ x = y by omega), if_neg c, if_pos d]
        simp [c]
      · rw [if_pos (show x = y by omega), if_neg c, if_neg d, ih]
theorem spec_less_l0 (a b : List Int) (ha : a.length ≤ 1000) (hab : a.length = b.length) : ∀ (sa pa sb pb : List Int), a = pa ++ sa → b = pb ++ sb → pa.length = pb.length → Ev (fun k => spec_l03Less.l0 k b a (a.length : Int) (pa.length : Int)) (lessL sa sb)
  | [], pa, sb, pb, ea, eb, hl => by
    have e2 : a = pa := by simpa using ea
    subst e2
    refine ev_up ?_
    simp only [spec_l03Less.l0, if_neg (show ¬ ((a.length : Int) < a.length) by omega)]
    cases sb <;> exact Ev.now _
  | x :: sa, pa, sb, pb, ea, eb, hl => by
    have hlen : a.length = pa.length + sa.length + 1 := by rw [ea]; simp; omega
    have hx : rd a (pa.length : Int) = x := by rw [ea]; exact rd_mid _ _ _
    have hb : b.length = pb.length + sb.length := by rw [eb]; simp
    have hw : wrap64 ((pa.length : Int) + 1) = ((pa ++ [x]).length : Int) := by rw [pw_wrap (by omega) (by omega)]; simp
    cases sb with
    | nil => simp at hb; omega
    | cons y sb =>
      have hy : rd b (pa.length : Int) = y := by rw [eb, hl]; exact rd_mid _ _ _
      refine ev_up ?_
      simp only [spec_l03Less.l0, if_pos (show ((pa.length : Int) < a.length) by omega), if_pos (Int.natCast_nonneg pa.length), if_pos (show (pa.length : Int) < (b.length : Int) by omega), hx, hy, hw, lessL]
      by_cases c : x = y
      · simp only [if_pos c]
        exact spec_less_l0 a b ha hab sa (pa ++ [x]) sb (pb ++ [y]) (by simp [ea]) (by simp [eb]) (by simp [hl])
      · simp only [if_neg c]
        exact Ev.now _
theorem spec_less (a b : List Int) (ha : a.length ≤ 1000) (hab : a.length = b.length) : Ev (fun k => spec_l03Less.f k a b) (lessL a b) := spec_less_l0 a b ha hab a [] b [] rfl rfl rfl
theorem spec_same_l0 (a b : List Int) (ha : a.length ≤ 1000) (hab : a.length = b.length) : ∀ (sa pa sb pb : List Int), a = pa ++ sa → b = pb ++ sb → pa.length = pb.length → Ev (fun k => spec_SameList.l0 k b a (a.length : Int) (pa.length : Int)) (decide (sa = sb))
  | [], pa, sb, pb, ea, eb, hl => by
    have e2 : a = pa := by simpa using ea
    subst e2
    have hb : b.length = pb.length + sb.length := by rw [eb]; simp
    have : sb = [] := List.eq_nil_of_length_eq_zero (by omega)
    subst this
    refine ev_up ?_
    simp only [spec_SameList.l0, if_neg (show ¬ ((a.length : Int) < a.length) by omega)]
    exact Ev.now _
  | x :: sa, pa, sb, pb, ea, eb, hl => by
    have hlen : a.length = pa.length + sa.length + 1 := by rw [ea]; simp; omega
    have hx : rd a (pa.length : Int) = x := by rw [ea]; exact rd_mid _ _ _
    have hb : b.length = pb.length + sb.length := by rw [eb]; simp
    have hw : wrap64 ((pa.length : Int) + 1) = ((pa ++ [x]).length : Int) := by rw [pw_wrap (by omega) (by omega)]; simp
    cases sb with
    | nil => simp at hb; omega
    | cons y sb =>
      have hy : rd b (pa.length : Int) = y := by rw [eb, hl]; exact rd_mid _ _ _
      refine ev_up ?_
      simp only [spec_SameList.l0, if_pos (show ((pa.length : Int) < a.length) by omega), if_pos (Int.natCast_nonneg pa.length), if_pos (show (pa.length : Int) < (b.length : Int) by omega), hx, hy, hw]
      by_cases c : x = y
      · simp only [if_pos c]
        have ih := spec_same_l0 a b ha hab sa (pa ++ [x]) sb (pb ++ [y]) (by simp [ea]) (by simp [eb]) (by simp [hl])
        have e : decide (x :: sa = y :: sb) = decide (sa = sb) := decide_eq_decide.2 (by simp [c])
        rw [e]
        exact ih
      · simp only [if_neg c, decide_eq_false (show ¬ (x :: sa = y :: sb) by simp [c])]
        exact Ev.now _
theorem spec_sameL (a b : List Int) (ha : a.length ≤ 1000) : Ev (fun k => spec_SameList.f k a b) (decide (a = b)) := by
  unfold spec_SameList.f
  by_cases h : a.length = b.length
  · simp only [if_pos (show (a.length : Int) = b.length by omega)]
    exact spec_same_l0 a b ha h a [] b [] rfl rfl rfl
  · simp only [if_neg (show ¬ (a.length : Int) = b.length by omega), decide_eq_false (show ¬ a = b from fun e => h (congrArg List.length e))]
    exact Ev.now _
theorem spec_sameS (x y : Sf) (h0 : x.f0.length ≤ 1000) (h1 : x.f1.length ≤ 1000) : Ev (fun k => spec_SameSurface.f k x.f0 x.f1 y.f0 y.f1) (decide (x.f0 = y.f0) && decide (x.f1 = y.f1)) := by
  unfold spec_SameSurface.f
  refine Ev.bind (spec_sameL _ _ h0) ?_
  by_cases c : x.f0 = y.f0
  · simp only [decide_eq_true c, if_true, Bool.true_and]
    exact Ev.bind (spec_sameL _ _ h1) (Ev.now _)
  · simp only [decide_eq_false c, Bool.false_eq_true, if_false, Bool.false_and]
    exact Ev.now _
theorem impl_eq_l0 (a b : List Int) (ha : a.length ≤ 1000) (hab : a.length = b.length) : ∀ (sa pa sb pb : List Int), a = pa ++ sa → b = pb ++ sb → pa.length = pb.length → Ev (fun k => slices_Equal_int_int.l0 k a b (a.length : Int) (pa.length : Int)) (decide (sa = sb))
  | [], pa, sb, pb, ea, eb, hl => by
    have e2 : a = pa := by simpa using ea
    subst e2
    have hb : b.length = pb.length + sb.length := by rw [eb]; simp
    have : sb = [] := List.eq_nil_of_length_eq_zero (by omega)
    subst this
    refine ev_up ?_
    simp only [slices_Equal_int_int.l0, if_neg (show ¬ ((a.length : Int) < a.length) by omega)]
    exact Ev.now _
  | x :: sa, pa, sb, pb, ea, eb, hl => by
    have hlen : a.length = pa.length + sa.length + 1 := by rw [ea]; simp; omega
    have hx : rd a (pa.length : Int) = x := by rw [ea]; exact rd_mid _ _ _
    have hb : b.length = pb.length + sb.length := by rw [eb]; simp
    have hw : wrap64 ((pa.length : Int) + 1) = ((pa ++ [x]).length : Int) := by rw [pw_wrap (by omega) (by omega)]; simp
    cases sb with
    | nil => simp at hb; omega
    | cons y sb =>
      have hy : rd b (pa.length : Int) = y := by rw [eb, hl]; exact rd_mid _ _ _
      refine ev_up ?_
      simp only [slices_Equal_int_int.l0, if_pos (show ((pa.length : Int) < a.length) by omega), if_pos (Int.natCast_nonneg pa.length), if_pos (show (pa.length : Int) < (b.length : Int) by omega), hx, hy, hw]
      by_cases c : x = y
      · simp only [if_pos c]
        have ih := impl_eq_l0 a b ha hab sa (pa ++ [x]) sb (pb ++ [y]) (by simp [ea]) (by simp [eb]) (by simp [hl])
        have e : decide (x :: sa = y :: sb) = decide (sa = sb) := decide_eq_decide.2 (by simp [c])
        rw [e]
        exact ih
      · simp only [if_neg c, decide_eq_false (show ¬ (x :: sa = y :: sb) by simp [c])]
        exact Ev.now _
theorem impl_sameL (a b : List Int) (ha : a.length ≤ 1000) : Ev (fun k => impl_SameList.f k a b) (decide (a = b)) := by
  unfold impl_SameList.f
  refine Ev.bind (a := decide (a = b)) ?_ (Ev.now _)
  unfold slices_Equal_int_int.f
  by_cases h : a.length = b.length
  · simp only [if_pos (show (a.length : Int) = b.length by omega)]
    exact impl_eq_l0 a b ha h a [] b [] rfl rfl rfl
  · simp only [if_neg (show ¬ (a.length : Int) = b.length by omega), decide_eq_false (show ¬ a = b from fun e => h (congrArg List.length e))]
    exact Ev.now _
theorem impl_sameS (x y : Sf) (h0 : x.f0.length ≤ 1000) (h1 : x.f1.length ≤ 1000) : Ev (fun k => impl_SameSurface.f k x.f0 x.f1 y.f0 y.f1) (decide (x.f0 = y.f0) && decide (x.f1 = y.f1)) := by
  unfold impl_SameSurface.f
  refine Ev.bind (impl_sameL _ _ h0) ?_
  by_cases c : x.f0 = y.f0
  · simp only [decide_eq_true c, if_true, Bool.true_and]
    exact Ev.bind (impl_sameL _ _ h1) (Ev.now _)
  · simp only [decide_eq_false c, Bool.false_eq_true, if_false, Bool.false_and]
    exact Ev.now _
theorem spec_before (x y : Sf) {n : Nat} (hn : n ≤ 1000) (hx : x.f0.length = n ∧ x.f1.length = n) (hy : y.f0.length = n ∧ y.f1.length = n) : Ev (fun k => spec_l03Before.f k x.f0 x.f1 y.f0 y.f1) (decide (cmpS x y < 0)) := by
  unfold spec_l03Before.f cmpS
  refine Ev.bind (spec_sameL _ _ (by omega)) ?_
  by_cases c : x.f0 = y.f0
  · have hz := (cmpL_zero x.f0 y.f0).2 c
    simp only [decide_eq_true c, if_true, if_pos hz]
    rw [← less_cmp _ _ (by omega)]
    exact Ev.bind (spec_less _ _ (by omega) (by omega)) (Ev.now _)
  · have hz : ¬ cmpL x.f0 y.f0 = 0 := fun e => c ((cmpL_zero _ _).1 e)
    simp only [decide_eq_false c, Bool.false_eq_true, if_false, if_neg hz]
    rw [← less_cmp _ _ (by omega)]
    exact Ev.bind (spec_less _ _ (by omega) (by omega)) (Ev.now _)
theorem spec_canon_l0 {r u : List Int} (h : transB r u = true) : ∀ (d : Nat) (i : Int) (m : Sf), 0 ≤ i → i + d = r.length → m.f0.length = r.length ∧ m.f1.length = r.length → Ev (fun k => spec_l03Canon.l0 k i r u m.f0 m.f1) ((minS m (namedG r u d i)).f0, (minS m (namedG r u d i)).f1)
  | 0, i, m, i0, hi, hm => by
    refine ev_up ?_
    simp only [spec_l03Canon.l0, if_neg (show ¬ i < (r.length : Int) by omega)]
    exact Ev.now _
  | d + 1, i, m, i0, hi, hm => by
    have hn := (transB_side h).1.1
    have i1 : i < r.length := by omega
    have hl := renS_len h i0 i1
    refine ev_up ?_
    simp only [spec_l03Canon.l0, if_pos i1, pw_wrap (a := i + 1) (by omega) (by omega)]
    refine Ev.bind (spec_names h i0 i1) ?_
    refine Ev.bind (spec_renS h i0 i1) ?_
    refine Ev.bind (spec_before (renS r u i) m (n := r.length) (by omega) hl hm) ?_
    have e : minS m (namedG r u (d + 1) i) = minS (if cmpS (renS r u i) m < 0 then renS r u i else m) (namedG r u d (i + 1)) := rfl
    rw [e]
    by_cases c : cmpS (renS r u i) m < 0
    · simp only [decide_eq_true c, if_true, if_pos c]
      exact spec_canon_l0 h d (i + 1) _ (by omega) (by omega) hl
    · simp only [decide_eq_false c, Bool.false_eq_true, if_false, if_neg c]
      exact spec_canon_l0 h d (i + 1) _ (by omega) (by omega) hm
theorem spec_canon {r u : List Int} (h : transB r u = true) : Ev (fun k => spec_l03Canon.f k r u) ((canonS r u).f0, (canonS r u).f1) := by
  have h0 := (transB_side h).2.2.2.1
  unfold spec_l03Canon.f
  refine Ev.bind (spec_names h (by omega) (by omega)) ?_
  refine Ev.bind (spec_renS h (by omega) (by omega)) ?_
  exact spec_canon_l0 h (r.length - 1) 1 (renS r u 0) (by omega) (by omega) (renS_len h (by omega) (by omega))

/-! Surfaces that go over into each other have the same canonical form. -/
theorem trans_ind {r u : List Int} (h : transB r u = true) (P : Int → Prop) (h0 : P 0) (hr : ∀ x : Int, 0 ≤ x → x < r.length → P x → P (rd r x)) (hu : ∀ x : Int, 0 ≤ x → x < r.length → P x → P (rd u x)) {x : Int} (x0 : 0 ≤ x) (x1 : x < r.length) : P x := by
  obtain ⟨pr, pu, he, hn, hq⟩ := transB_side h
  obtain ⟨g1, g2, g3⟩ := reach_facts h
  have hnb : ∀ x : Int, 0 ≤ x → x < r.length → ∀ y ∈ nbT r u x, 0 ≤ y ∧ y < (r.length : Int) := fun x x0 x1 => nbT_lt pr pu he x0 x1
  exact (bfs_sub (nbT r u) (fun x => (0 ≤ x ∧ x < (r.length : Int)) ∧ P x) (fun x hx y hy _ => by
    refine ⟨hnb x hx.1.1 hx.1.2 y hy, ?_⟩
    simp only [nbT, List.mem_cons, List.not_mem_nil, or_false] at hy
    rcases hy with rfl | rfl
    · exact hr x hx.1.1 hx.1.2 hx.2
    · exact hu x hx.1.1 hx.1.2 hx.2) (r.length + 1) [0] 0 (fun x hx => by simp at hx; subst hx; exact ⟨⟨by omega, by omega⟩, h0⟩) x (g2 x x0 x1)).2
theorem nodup_sub_len : ∀ (a b : List Int), a.Nodup → (∀ x ∈ a, x ∈ b) → a.length ≤ b.length
  | [], b, _, _ => by simp
  | x :: a, b, hn, hs => by
    obtain ⟨b1, b2, rfl⟩ := List.append_of_mem (hs x (by simp))
    have hx := List.nodup_cons.1 hn
    have := nodup_sub_len a (b1 ++ b2) hx.2 (fun y hy => by
      have := hs y (List.mem_cons_of_mem _ hy)
      simp only [List.mem_append, List.mem_cons] at this ⊢
      rcases this with h | h | h
      · exact .inl h
      · subst h; exact absurd hy hx.1
      · exact .inr h)
    simp only [List.length_append, List.length_cons] at this ⊢
    omega
theorem trans_of {r u : List Int} (pr : isPerm r) (pu : isPerm u) (he : r.length = u.length) (hn : 0 < r.length) (hall : ∀ P : Int → Prop, P 0 → (∀ x : Int, 0 ≤ x → x < r.length → P x → P (rd r x)) → (∀ x : Int, 0 ≤ x → x < r.length → P x → P (rd u x)) → ∀ x : Int, 0 ≤ x → x < r.length → P x) : transB r u = true := by
  have hnb : ∀ x : Int, 0 ≤ x → x < r.length → ∀ y ∈ nbT r u x, 0 ≤ y ∧ y < (r.length : Int) := fun x x0 x1 => nbT_lt pr pu he x0 x1
  have hf0 := few_z (n := r.length) (by omega)
  have hfew : Few r.length (reachOf r u) := bfs_few _ (fun x x0 x1 y hy => (hnb x x0 x1 y hy).2) _ _ _ hf0
  have hcl : ∀ x ∈ reachOf r u, ∀ k ∈ nbT r u x, 0 ≤ k → k ∈ reachOf r u := bfs_closed _ (fun x x0 x1 y hy => (hnb x x0 x1 y hy).2) _ _ _ hf0 rfl (fun j hj hji => absurd hji (by omega))
  have h0 : (0 : Int) ∈ reachOf r u := by
    obtain ⟨s, hs⟩ := bfs_pre (nbT r u) (r.length + 1) [0] 0
    unfold reachOf
    rw [hs]
    simp
  have full := hall (fun x => x ∈ reachOf r u) h0 (fun x x0 x1 hx => hcl x hx _ (by simp [nbT]) (pm_in pr x0 x1).1) (fun x x0 x1 hx => hcl x hx _ (by simp [nbT]) (pm_in pu x0 (by omega)).1)
  have hlen : (reachOf r u).length = r.length := by
    refine Nat.le_antisymm (few_len hfew) ?_
    have hs : ((List.range r.length).map fun (i : Nat) => (i : Int)).length ≤ (reachOf r u).length := by
      refine nodup_sub_len _ _ ?_ fun x hx => ?_
      · exact List.pairwise_map.2 (List.nodup_range.imp fun {a b} hne e => hne (by have e2 : (a : Int) = (b : Int) := e; omega))
      · obtain ⟨i, hi, rfl⟩ := List.mem_map.1 hx
        rw [List.mem_range] at hi
        exact full _ (by omega) (by omega)
    simpa using hs
  unfold transB
  rw [(permB_iff r).2 pr, (permB_iff u).2 pu, decide_eq_true he, decide_eq_true hn, hlen]
  simp
/-! The order of surfaces. -/
theorem cmpL_anti : ∀ a b : List Int, cmpL b a = - cmpL a b
  | [], [] => rfl
  | [], _ :: _ => rfl
  | _ :: _, [] => rfl
  | x :: a, y :: b => by
    have ih := cmpL_anti a b
    rcases Int.lt_trichotomy x y with c | c | c
    · have h1 : ¬ y < x := by omega
      simp [cmpL, c, h1]
    · subst c
      simp [cmpL, ih]
    · have h1 : ¬ x < y := by omega
      simp [cmpL, c, h1]
theorem cmpL_trans : ∀ a b c : List Int, cmpL a b < 0 → cmpL b c < 0 → cmpL a c < 0
  | [], [], _, h, _ => by simp [cmpL] at h
  | [], _ :: _, [], _, h => by simp [cmpL] at h
  | [], _ :: _, _ :: _, _, _ => by simp [cmpL]
  | _ :: _, [], _, h, _ => by simp [cmpL] at h
  | _ :: _, _ :: _, [], _, h => by simp [cmpL] at h
  | x :: a, y :: b, z :: c, h1, h2 => by
    rw [cmpL] at h1 h2 ⊢
    by_cases p : x < z
    · rw [if_pos p]
      decide
    · by_cases p1 : x < y
      · rw [if_pos p1] at h1
        by_cases p2 : y < z
        · omega
        · rw [if_neg p2, if_pos (by omega)] at h2
          omega
      · rw [if_neg p1] at h1
        by_cases p3 : x > y
        · rw [if_pos p3] at h1
          omega
        · rw [if_neg p3] at h1
          by_cases p2 : y < z
          · omega
          · rw [if_neg p2] at h2
            by_cases p4 : y > z
            · rw [if_pos p4] at h2
              omega
            · rw [if_neg p4] at h2
              rw [if_neg p, if_neg (by omega)]
              exact cmpL_trans a b c h1 h2
theorem cmpS_anti (x y : Sf) : cmpS y x = - cmpS x y := by
  unfold cmpS
  rw [cmpL_anti x.f0 y.f0, cmpL_anti x.f1 y.f1]
  by_cases h : cmpL x.f0 y.f0 = 0
  · rw [if_pos h, if_pos (by omega)]
  · rw [if_neg h, if_neg (by omega)]
theorem cmpS_zero (x y : Sf) (h : cmpS x y = 0) : x = y := by
  unfold cmpS at h
  by_cases c : cmpL x.f0 y.f0 = 0
  · rw [if_pos c] at h
    have e1 := (cmpL_zero _ _).1 c
    have e2 := (cmpL_zero _ _).1 h
    cases x; cases y
    simp only at e1 e2
    rw [e1, e2]
  · rw [if_neg c] at h
    exact absurd h c
theorem cmpS_trans (x y z : Sf) (h1 : cmpS x y < 0) (h2 : cmpS y z < 0) : cmpS x z < 0 := by
  unfold cmpS at h1 h2 ⊢
  by_cases c : cmpL x.f0 y.f0 = 0
  · rw [if_pos c] at h1
    have e := (cmpL_zero _ _).1 c
    rw [e]
    by_cases d : cmpL y.f0 z.f0 = 0
    · rw [if_pos d] at h2 ⊢
      exact cmpL_trans _ _ _ h1 h2
    · rw [if_neg d] at h2 ⊢
      exact h2
  · rw [if_neg c] at h1
    by_cases d : cmpL y.f0 z.f0 = 0
    · have e := (cmpL_zero _ _).1 d
      rw [e] at h1 c
      rw [if_neg c]
      exact h1
    · rw [if_neg d] at h2
      have := cmpL_trans _ _ _ h1 h2
      rw [if_neg (by omega)]
      exact this
theorem minS_facts : ∀ (l : List Sf) (m : Sf), (minS m l = m ∨ minS m l ∈ l) ∧ ¬ cmpS m (minS m l) < 0 ∧ ∀ x ∈ l, ¬ cmpS x (minS m l) < 0
  | [], m => ⟨.inl rfl, by
    have := cmpS_anti m m
    show ¬ cmpS m m < 0
    omega, fun x hx => absurd hx (by simp)⟩
  | y :: l, m => by
    have e : minS m (y :: l) = minS (if cmpS y m < 0 then y else m) l := rfl
    rw [e]
    by_cases c : cmpS y m < 0
    · rw [if_pos c]
      obtain ⟨a, b, d⟩ := minS_facts l y
      refine ⟨.inr ?_, fun h => ?_, fun x hx => ?_⟩
      · rcases a with a | a
        · rw [a]; simp
        · simp [a]
      · exact b (cmpS_trans _ _ _ c h)
      · rcases List.mem_cons.1 hx with rfl | hx
        · exact b
        · exact d x hx
    · rw [if_neg c]
      obtain ⟨a, b, d⟩ := minS_facts l m
      refine ⟨?_, b, fun x hx => ?_⟩
      · rcases a with a | a
        · exact .inl a
        · exact .inr (by simp [a])
      · rcases List.mem_cons.1 hx with rfl | hx
        · intro h
          have h2 := cmpS_anti x m
          by_cases z : cmpS m x < 0
          · exact b (cmpS_trans _ _ _ z h)
          · have := cmpS_zero m x (by omega)
            subst this
            exact b h
        · exact d x hx
theorem mem_namedG (r u : List Int) (x : Sf) : ∀ (d : Nat) (i : Int), x ∈ namedG r u d i ↔ ∃ k, i ≤ k ∧ k < i + d ∧ x = renS r u k
  | 0, i => by
    simp only [namedG, List.not_mem_nil, false_iff]
    rintro ⟨k, a, b, _⟩
    omega
  | d + 1, i => by
    rw [namedG, List.mem_cons, mem_namedG r u x d (i + 1)]
    constructor
    · rintro (rfl | ⟨k, a, b, rfl⟩)
      · exact ⟨i, by omega, by omega, rfl⟩
      · exact ⟨k, by omega, by omega, rfl⟩
    · rintro ⟨k, a, b, rfl⟩
      by_cases e : k = i
      · subst e
        exact .inl rfl
      · exact .inr ⟨k, by omega, by omega, rfl⟩
theorem canon_facts {r u : List Int} (h : transB r u = true) : (∃ k : Int, 0 ≤ k ∧ k < r.length ∧ canonS r u = renS r u k) ∧ ∀ k : Int, 0 ≤ k → k < r.length → ¬ cmpS (renS r u k) (canonS r u) < 0 := by
  have hn := (transB_side h).2.2.2.1
  obtain ⟨a, b, c⟩ := minS_facts (namedG r u (r.length - 1) 1) (renS r u 0)
  refine ⟨?_, fun k k0 k1 => ?_⟩
  · rcases a with a | a
    · exact ⟨0, by omega, by omega, a⟩
    · obtain ⟨k, k0, k1, e⟩ := (mem_namedG r u _ _ _).1 a
      exact ⟨k, by omega, by omega, e⟩
  · by_cases e : k = 0
    · subst e
      exact b
    · exact c _ ((mem_namedG r u _ _ _).2 ⟨k, by omega, by omega, rfl⟩)
/-! Going over. -/
structure Iso (r u r' u' g : List Int) : Prop where
  pg : isPerm g
  lg : g.length = r.length
  le : r'.length = r.length
  hr : ∀ x : Int, 0 ≤ x → x < r.length → rd g (rd r x) = rd r' (rd g x)
  hu : ∀ x : Int, 0 ≤ x → x < r.length → rd g (rd u x) = rd u' (rd g x)
/-- Names take a surface over into its form. -/
theorem iso_names {r u : List Int} (ht : transB r u = true) {k : Int} (k0 : 0 ≤ k) (k1 : k < r.length) : Iso r u (renS r u k).f0 (renS r u k).f1 (namesOf r u k) := by
  obtain ⟨pr, pu, he, hn, _⟩ := transB_side ht
  have n1 := names_perm ht k0 k1
  exact ⟨n1.1, n1.2, (renS_len ht k0 k1).1, fun x x0 x1 => (renL_rd pr n1.1 n1.2 x0 x1).symm, fun x x0 x1 => (renL_rd pu n1.1 (by omega) x0 (by omega)).symm⟩
/-- A word, as a text. -/
def wordB (ws : List UInt8) : ByteArray := ⟨ws.toArray⟩
def letters : List UInt8 := [84, 116, 83, 115]
def GoodW (ws : List UInt8) : Prop := ∀ c ∈ ws, c ∈ letters
theorem wordB_size (ws : List UInt8) : (wordB ws).size = ws.length := by
  have h : (wordB ws).size = ws.toArray.size := rfl
  rw [h, List.size_toArray]
/-! What the letters do to a surface. -/
def letterR (r u : List Int) (c : Int) : List Int := if c = 84 then r else if c = 116 then r else if c = 83 then invL u else u
def letterU (r u : List Int) (c : Int) : List Int := if c = 84 then thenL (invL r) u else if c = 116 then thenL r u else if c = 83 then r else invL r
theorem copyInts_ev {l : List Int} (h : l.length ≤ 1000) : impl_copyInts.f l = some l := by
  unfold impl_copyInts.f
  simp only [Option.bind_some, List.length_nil, List.nil_append, if_pos (show 0 + l.length < 17592186044416 by omega)]
theorem back_of {p : List Int} (hp : isPerm p) {P : Int → Prop} (hP : ∀ x : Int, 0 ≤ x → x < p.length → P x → P (rd (invL p) x)) {x : Int} (x0 : 0 ≤ x) (x1 : x < p.length) (h : P x) : P (rd p x) := by
  have b := pm_in hp x0 x1
  refine closed_back (inv_perm hp) (P := P) (fun y y0 y1 => hP y y0 (by rw [invL_len hp] at y1; exact y1)) b.1 (by rw [invL_len hp]; exact b.2) ?_
  rw [inv_left hp x0 x1]
  exact h
theorem letter_trans {r u : List Int} (h : transB r u = true) (c : Int) : transB (letterR r u c) (letterU r u c) = true ∧ (letterR r u c).length = r.length := by
  obtain ⟨pr, pu, he, hn, _⟩ := transB_side h
  have ir := inv_perm pr
  have iu := inv_perm pu
  have lr := invL_len pr
  have lu := invL_len pu
  unfold letterR letterU
  by_cases c1 : c = 84
  · rw [if_pos c1, if_pos c1]
    refine ⟨trans_of pr (then_perm ir pu (by omega)) (by rw [then_len]; omega) hn fun P h0 h1 h2 x x0 x1 => trans_ind h P h0 h1 (fun y y0 y1 hy => ?_) x0 x1, rfl⟩
    have b := pm_in pr y0 y1
    have := h2 (rd r y) b.1 b.2 (h1 y y0 y1 hy)
    rw [then_rd _ _ b.1 (by omega), inv_left pr y0 y1] at this
    exact this
  · by_cases c2 : c = 116
    · rw [if_neg c1, if_neg c1, if_pos c2, if_pos c2]
      refine ⟨trans_of pr (then_perm pr pu he) (by rw [then_len]) hn fun P h0 h1 h2 x x0 x1 => trans_ind h P h0 h1 (fun y y0 y1 hy => ?_) x0 x1, rfl⟩
      have b := inv_right pr y0 y1
      have hz : P (rd (invL r) y) := closed_back pr h1 b.2.1 b.2.2 (by rw [b.1]; exact hy)
      have := h2 (rd (invL r) y) b.2.1 b.2.2 hz
      rw [then_rd _ _ b.2.1 b.2.2, b.1] at this
      exact this
    · by_cases c3 : c = 83
      · rw [if_neg c1, if_neg c1, if_neg c2, if_neg c2, if_pos c3, if_pos c3]
        refine ⟨trans_of iu pr (by omega) (by omega) fun P h0 h1 h2 x x0 x1 => trans_ind h P h0 (fun y y0 y1 hy => h2 y y0 (by omega) hy) (fun y y0 y1 hy => back_of pu (fun z z0 z1 hz => h1 z z0 (by omega) hz) y0 (by omega) hy) x0 (by omega), by omega⟩
      · rw [if_neg c1, if_neg c1, if_neg c2, if_neg c2, if_neg c3, if_neg c3]
        refine ⟨trans_of pu ir (by omega) (by omega) fun P h0 h1 h2 x x0 x1 => trans_ind h P h0 (fun y y0 y1 hy => back_of pr (fun z z0 z1 hz => h2 z z0 (by omega) hz) y0 y1 hy) (fun y y0 y1 hy => h1 y y0 (by omega) hy) x0 (by omega), by omega⟩
theorem impl_letter {r u : List Int} (h : transB r u = true) (c : Int) (hc : c = 84 ∨ c = 116 ∨ c = 83 ∨ c = 115) : Ev (fun k => impl_letterSurface.f k r u c) (letterR r u c, letterU r u c) := by
  obtain ⟨pr, pu, he, hn, _⟩ := transB_side h
  have ir := inv_perm pr
  have cr : r.length ≤ 1000 := by have := pr.1; omega
  have cu : u.length ≤ 1000 := by omega
  unfold impl_letterSurface.f letterR letterU
  by_cases c1 : c = 84
  · simp only [if_pos c1]
    unfold impl_ShearSurface.f
    refine Ev.bind (a := (r, thenL (invL r) u, true)) (Ev.bind (impl_surfOk r u) ?_) (Ev.now _)
    rw [h]
    simp only [if_true, copyInts_ev cr, Option.bind_some]
    exact Ev.bind (impl_inv pr) (Ev.bind (impl_thn ir pu (by rw [invL_len pr]; exact he)) (Ev.now _))
  · simp only [if_neg c1]
    by_cases c2 : c = 116
    · simp only [if_pos c2]
      unfold impl_UnshearSurface.f
      refine Ev.bind (a := (r, thenL r u, true)) (Ev.bind (impl_surfOk r u) ?_) (Ev.now _)
      rw [h]
      simp only [if_true, copyInts_ev cr, Option.bind_some]
      exact Ev.bind (impl_thn pr pu he) (Ev.now _)
    · simp only [if_neg c2]
      by_cases c3 : c = 83
      · simp only [if_pos c3]
        unfold impl_TurnSurface.f
        refine Ev.bind (a := (invL u, r, true)) (Ev.bind (impl_surfOk r u) ?_) (Ev.now _)
        rw [h]
        simp only [if_true, copyInts_ev cr, Option.bind_some]
        exact Ev.bind (impl_inv pu) (Ev.now _)
      · have c4 : c = 115 := by omega
        simp only [if_neg c3, if_pos c4]
        unfold impl_UnturnSurface.f
        refine Ev.bind (a := (u, invL r, true)) (Ev.bind (impl_surfOk r u) ?_) (Ev.now _)
        rw [h]
        simp only [if_true, copyInts_ev cu, Option.bind_some]
        exact Ev.bind (impl_inv pr) (Ev.now _)
/-! Isomorphic surfaces. -/
/-! The orbit of a surface: what is found, letter by letter. -/
theorem trans_ind_at {r u : List Int} (h : transB r u = true) {k : Int} (k0 : 0 ≤ k) (k1 : k < r.length) (P : Int → Prop) (hk : P k) (hr : ∀ x : Int, 0 ≤ x → x < r.length → P x → P (rd r x)) (hu : ∀ x : Int, 0 ≤ x → x < r.length → P x → P (rd u x)) {x : Int} (x0 : 0 ≤ x) (x1 : x < r.length) : P x := by
  obtain ⟨pr, pu, he, hn, hq⟩ := transB_side h
  have hf := reachK_full h k0 k1
  have hnb : ∀ x : Int, 0 ≤ x → x < r.length → ∀ y ∈ nbT r u x, 0 ≤ y ∧ y < (r.length : Int) := fun x x0 x1 => nbT_lt pr pu he x0 x1
  have hx : x ∈ reachK r u k := few_full hf.1 hf.2 x0 x1
  exact (bfs_sub (nbT r u) (fun x => (0 ≤ x ∧ x < (r.length : Int)) ∧ P x) (fun x hx y hy _ => by
    refine ⟨hnb x hx.1.1 hx.1.2 y hy, ?_⟩
    simp only [nbT, List.mem_cons, List.not_mem_nil, or_false] at hy
    rcases hy with rfl | rfl
    · exact hr x hx.1.1 hx.1.2 hx.2
    · exact hu x hx.1.1 hx.1.2 hx.2) (r.length + 1) [k] 0 (fun x hx => by simp at hx; subst hx; exact ⟨⟨k0, k1⟩, hk⟩) x hx).2
theorem trans_over {r u r' u' g : List Int} (i : Iso r u r' u' g) (h : transB r u = true) (pr' : isPerm r') (pu' : isPerm u') (lu : u'.length = r.length) : transB r' u' = true := by
  obtain ⟨pr, pu, he, hn, _⟩ := transB_side h
  have lg := i.lg
  have le := i.le
  refine trans_of pr' pu' (by omega) (by omega) fun P h0 h1 h2 y y0 y1 => ?_
  obtain ⟨x, x0, x1, rfl⟩ := pm_sur i.pg y0 (by omega)
  obtain ⟨z, z0, z1, ez⟩ := pm_sur i.pg (y := 0) (by omega) (by omega)
  refine trans_ind_at h z0 (by omega) (fun x => P (rd g x)) (by rw [ez]; exact h0) (fun z z0 z1 hz => ?_) (fun z z0 z1 hz => ?_) x0 (by omega)
  · have b := pm_in i.pg z0 (by omega)
    rw [i.hr z z0 z1]
    exact h1 _ b.1 (by omega) hz
  · have b := pm_in i.pg z0 (by omega)
    rw [i.hu z z0 z1]
    exact h2 _ b.1 (by omega) hz
theorem canon_trans {r u : List Int} (h : transB r u = true) : transB (canonS r u).f0 (canonS r u).f1 = true := by
  obtain ⟨pr, pu, he, hn, _⟩ := transB_side h
  obtain ⟨⟨k, k0, k1, e⟩, _⟩ := canon_facts h
  have n1 := names_perm h k0 k1
  have ls := renS_len h k0 k1
  rw [e]
  exact trans_over (iso_names h k0 k1) h (renL_perm pr n1.1 n1.2) (renL_perm pu n1.1 (by omega)) ls.2
structure Orb where
  l : List Sf
  ws : List (List UInt8)
  fr : List Int
  bs : List Int
  nt : List Int
  ns : List Int
def stepC (c : UInt8) (s : Sf) : Sf := canonS (letterR s.f0 s.f1 c.toNat) (letterU s.f0 s.f1 c.toNat)
def sameF (x y : Sf) : Bool := decide (x.f0 = y.f0) && decide (x.f1 = y.f1)
theorem sameF_iff (x y : Sf) : sameF x y = true ↔ x = y := by
  unfold sameF
  rw [Bool.and_eq_true, decide_eq_true_eq, decide_eq_true_eq]
  constructor
  · rintro ⟨a, b⟩
    cases x; cases y
    simp only at a b
    rw [a, b]
  · intro e
    rw [e]
    exact ⟨rfl, rfl⟩
def findS (x : Sf) : List Sf → Int → Int
  | [], _ => -1
  | y :: l, i => if sameF y x = true then i else findS x l (i + 1)
theorem findS_spec (x : Sf) : ∀ (l : List Sf) (i : Int), 0 ≤ i → (findS x l i = -1 ∧ x ∉ l) ∨ (i ≤ findS x l i ∧ findS x l i < i + l.length ∧ l[(findS x l i - i).toNat]? = some x)
  | [], i, _ => .inl ⟨rfl, by simp⟩
  | y :: l, i, i0 => by
    rw [findS]
    by_cases c : sameF y x = true
    · have e := (sameF_iff y x).1 c
      rw [if_pos c]
      refine .inr ⟨Int.le_refl _, by rw [List.length_cons]; omega, ?_⟩
      rw [Int.sub_self]
      simp [e]
    · rw [if_neg c]
      rcases findS_spec x l (i + 1) (by omega) with ⟨a, b⟩ | ⟨a, b, d⟩
      · refine .inl ⟨a, ?_⟩
        rw [List.mem_cons]
        rintro (e | e)
        · exact c ((sameF_iff y x).2 e.symm)
        · exact b e
      · refine .inr ⟨by omega, by rw [List.length_cons]; omega, ?_⟩
        rw [show (findS x l (i + 1) - i).toNat = (findS x l (i + 1) - (i + 1)).toNat + 1 by omega, List.getElem?_cons_succ]
        exact d
def wAt (ws : List (List UInt8)) (i : Int) : List UInt8 := ws.getD i.toNat []
def orbNext (c : UInt8) (k : Int) (o : Orb) : Orb := if c = 84 then { o with nt := o.nt ++ [k] } else { o with ns := o.ns ++ [k] }
def orbAdd (c : UInt8) (i : Int) (x : Sf) (o : Orb) : Orb := { o with l := o.l ++ [x], ws := o.ws ++ [wAt o.ws i ++ [c]], fr := o.fr ++ [i], bs := o.bs ++ [(c.toNat : Int)] }
def sfAt (l : List Sf) (i : Int) : Sf := rd_T27 l i
def orbStep (c : UInt8) (i : Int) (o : Orb) : Orb :=
  if findS (stepC c (sfAt o.l i)) o.l 0 < 0 then orbNext c o.l.length (orbAdd c i (stepC c (sfAt o.l i)) o) else orbNext c (findS (stepC c (sfAt o.l i)) o.l 0) o
def orbGo : Nat → Int → Orb → Option Orb
  | 0, _, _ => none
  | k + 1, i, o => if i < o.l.length then (if (orbStep 83 i (orbStep 84 i o)).l.length > 120 then none else orbGo k (i + 1) (orbStep 83 i (orbStep 84 i o))) else some o
def orb0 (r u : List Int) : Orb := ⟨[canonS r u], [[]], [-1], [0], [], []⟩
def orbOf (r u : List Int) : Option Orb := orbGo 122 0 (orb0 r u)
structure OrbI (n : Nat) (o : Orb) : Prop where
  val : ∀ s ∈ o.l, transB s.f0 s.f1 = true ∧ s.f0.length = n
  lw : o.ws.length = o.l.length
  lf : o.fr.length = o.l.length
  lb : o.bs.length = o.l.length
  sz : ∀ w ∈ o.ws, w.length ≤ o.ws.length ∧ GoodW w
theorem orbNext_l (c : UInt8) (k : Int) (o : Orb) : (orbNext c k o).l = o.l ∧ (orbNext c k o).ws = o.ws ∧ (orbNext c k o).fr = o.fr ∧ (orbNext c k o).bs = o.bs := by
  unfold orbNext
  split <;> exact ⟨rfl, rfl, rfl, rfl⟩
theorem sfAt_mem {l : List Sf} {i : Int} (i0 : 0 ≤ i) (i1 : i < l.length) : sfAt l i ∈ l := by
  have h : i.toNat < l.length := by omega
  have e : sfAt l i = l[i.toNat] := by simp [sfAt, rd_T27, List.getD, h]
  rw [e]
  exact List.getElem_mem h
theorem wAt_mem {ws : List (List UInt8)} {i : Int} (i0 : 0 ≤ i) (i1 : i < ws.length) : wAt ws i ∈ ws := by
  have h : i.toNat < ws.length := by omega
  have e : wAt ws i = ws[i.toNat] := by simp [wAt, List.getD, h]
  rw [e]
  exact List.getElem_mem h
theorem letter_len {r u : List Int} (h : transB r u = true) (c : Int) : (letterR r u c).length = r.length := (letter_trans h c).2
theorem stepC_ok {n : Nat} {c : UInt8} {s : Sf} (h : transB s.f0 s.f1 = true ∧ s.f0.length = n) : transB (stepC c s).f0 (stepC c s).f1 = true ∧ (stepC c s).f0.length = n := by
  have ht := (letter_trans h.1 c.toNat).1
  have hl := letter_len h.1 c.toNat
  refine ⟨canon_trans ht, ?_⟩
  unfold stepC
  rw [(canonS_len ht).1, hl]
  exact h.2
theorem orbStep_I {n : Nat} {o : Orb} (h : OrbI n o) {i : Int} (i0 : 0 ≤ i) (i1 : i < o.l.length) {c : UInt8} (hc : c ∈ letters) : OrbI n (orbStep c i o) ∧ o.l.length ≤ (orbStep c i o).l.length ∧ (orbStep c i o).l.length ≤ o.l.length + 1 := by
  have hs := stepC_ok (c := c) (h.val _ (sfAt_mem i0 i1))
  have lw := h.lw
  have lf := h.lf
  have lb := h.lb
  have hw := h.sz _ (wAt_mem (ws := o.ws) i0 (by omega))
  unfold orbStep
  split
  · obtain ⟨e1, e2, e3, e4⟩ := orbNext_l c (o.l.length : Int) (orbAdd c i (stepC c (sfAt o.l i)) o)
    refine ⟨⟨?_, ?_, ?_, ?_, ?_⟩, ?_, ?_⟩
    · rw [e1]
      intro s hm
      rcases List.mem_append.1 hm with hm | hm
      · exact h.val s hm
      · rw [List.mem_singleton] at hm
        rw [hm]
        exact hs
    · rw [e1, e2]
      simp only [orbAdd, List.length_append, List.length_singleton, lw]
    · rw [e1, e3]
      simp only [orbAdd, List.length_append, List.length_singleton, lf]
    · rw [e1, e4]
      simp only [orbAdd, List.length_append, List.length_singleton, lb]
    · rw [e2]
      simp only [orbAdd, List.length_append, List.length_singleton]
      intro w hm
      rcases List.mem_append.1 hm with hm | hm
      · have := h.sz w hm
        exact ⟨by omega, this.2⟩
      · rw [List.mem_singleton] at hm
        rw [hm]
        refine ⟨by simp; omega, fun d hd => ?_⟩
        rcases List.mem_append.1 hd with hd | hd
        · exact hw.2 d hd
        · rw [List.mem_singleton] at hd
          rw [hd]
          exact hc
    · rw [e1]
      simp only [orbAdd, List.length_append, List.length_singleton]
      omega
    · rw [e1]
      simp only [orbAdd, List.length_append, List.length_singleton]
      omega
  · obtain ⟨e1, e2, e3, e4⟩ := orbNext_l c (findS (stepC c (sfAt o.l i)) o.l 0) o
    exact ⟨⟨by rw [e1]; exact h.val, by rw [e1, e2]; exact lw, by rw [e1, e3]; exact lf, by rw [e1, e4]; exact lb, by rw [e2]; exact h.sz⟩, by rw [e1]; omega, by rw [e1]; omega⟩
/-! The reference. -/
theorem spec_copyL {l : List Int} (h : l.length ≤ 1000) : ([] : List Int).length + l.length < 17592186044416 := by
  rw [List.length_nil]
  omega
theorem spec_letter {r u : List Int} (h : transB r u = true) (c : UInt8) (hc : c = 84 ∨ c = 83) : Ev (fun k => spec_l05Letter.f k r u (c.toNat : Int)) (letterR r u c.toNat, letterU r u c.toNat) := by
  obtain ⟨pr, pu, he, hn, _⟩ := transB_side h
  have n := pr.1
  unfold spec_l05Letter.f letterR letterU
  rcases hc with rfl | rfl
  · simp only [show (((84 : UInt8).toNat : Nat) : Int) = 84 from rfl, if_true]
    refine Ev.bind (a := (r, thenL (invL r) u)) ?_ (Ev.now _)
    unfold spec_l05Shear.f
    simp only [Option.bind_some, if_pos (spec_copyL (l := r) (by omega)), List.nil_append]
    exact Ev.bind (spec_inv pr) (Ev.bind (spec_thn (inv_perm pr) (by rw [invL_len pr]; exact he)) (Ev.now _))
  · simp only [show (((83 : UInt8).toNat : Nat) : Int) = 83 from rfl, if_neg (show ¬ (83 : Int) = 84 by omega), if_neg (show ¬ (83 : Int) = 116 by omega), if_true]
    refine Ev.bind (a := (invL u, r)) ?_ (Ev.now _)
    unfold spec_l05Turn.f
    refine Ev.bind (spec_inv pu) ?_
    simp only [Option.bind_some, if_pos (spec_copyL (l := r) (by omega)), List.nil_append]
    exact Ev.now _
theorem spec_find_l0 (x : Sf) (l : List Sf) (hl : l.length ≤ 1000) (hx : ∀ s ∈ l, s.f0.length ≤ 1000 ∧ s.f1.length ≤ 1000) : ∀ (suf pre : List Sf), l = pre ++ suf → Ev (fun k => spec_l06Find.l0 k l (l.length : Int) (pre.length : Int) x.f0 x.f1) (findS x suf pre.length)
  | [], pre, e => by
    have e2 : l = pre := by simpa using e
    subst e2
    refine ev_up ?_
    simp only [spec_l06Find.l0, if_neg (show ¬ (l.length : Int) < (l.length : Int) by omega)]
    exact Ev.now _
  | y :: suf, pre, e => by
    have hlen : l.length = pre.length + suf.length + 1 := by rw [e]; simp; omega
    have hrd : rd_T27 l (pre.length : Int) = y := by rw [e]; simp [rd_T27, List.getD]
    have hy := hx y (by rw [e]; simp)
    have hw : wrap64 ((pre.length : Int) + 1) = ((pre ++ [y]).length : Int) := by rw [pw_wrap (by omega) (by omega)]; simp
    refine ev_up ?_
    simp only [spec_l06Find.l0, if_pos (show (pre.length : Int) < (l.length : Int) by omega), if_pos (show (0 : Int) ≤ (pre.length : Int) by omega), hrd, hw]
    refine Ev.bind (spec_sameS y x hy.1 hy.2) ?_
    rw [findS]
    have es : sameF y x = (decide (y.f0 = x.f0) && decide (y.f1 = x.f1)) := rfl
    rw [es]
    by_cases c : (decide (y.f0 = x.f0) && decide (y.f1 = x.f1)) = true
    · simp only [if_pos c]
      exact Ev.now _
    · simp only [if_neg c]
      have := spec_find_l0 x l hl hx suf (pre ++ [y]) (by simp [e])
      have e3 : ((pre ++ [y]).length : Int) = (pre.length : Int) + 1 := by simp
      rw [e3] at this ⊢
      exact this
theorem spec_find (x : Sf) (l : List Sf) (hl : l.length ≤ 1000) (hx : ∀ s ∈ l, s.f0.length ≤ 1000 ∧ s.f1.length ≤ 1000) : Ev (fun k => spec_l06Find.f k l x.f0 x.f1) (findS x l 0) := spec_find_l0 x l hl hx l [] rfl

theorem strOf_one (c : UInt8) : strOfNums [(c.toNat : Int)] = wordB [c] := by
  simp [strOfNums, wordB]
theorem rdB_map (ws : List (List UInt8)) {i : Int} (i0 : 0 ≤ i) (i1 : i < ws.length) : rdOf ByteArray.empty (ws.map wordB) i = wordB (wAt ws i) := by
  have h : i.toNat < ws.length := by omega
  simp [rdOf, wAt, List.getD, h]
theorem wordB_app2 (a b : List UInt8) : wordB a ++ wordB b = wordB (a ++ b) := by
  apply ByteArray.ext
  simp [wordB]
theorem sf_small {n : Nat} {o : Orb} (h : OrbI n o) (hn : n ≤ 24) : ∀ s ∈ o.l, s.f0.length ≤ 1000 ∧ s.f1.length ≤ 1000 := fun s hs => by
  have hv := h.val s hs
  have := (transB_side hv.1).2.2.1
  omega
theorem spec_orb_step {n : Nat} {o : Orb} (h : OrbI n o) (hn : n ≤ 24) (hl : o.l.length ≤ 121) {i : Int} (i0 : 0 ≤ i) (i1 : i < o.l.length) (Y : List Int) (hY : Y.length = 2) (j : Int) (j0 : 0 ≤ j) (j1 : j < 2) (c : UInt8) (hc : c = 84 ∨ c = 83) (hr : rd Y j = (c.toNat : Int)) (res : List Sf × List ByteArray × Bool)
    (hn2 : Ev (fun k => spec_l06Orbit.l1 k (orbStep c i o).l ((orbStep c i o).ws.map wordB) i Y 2 (j + 1)) res) : Ev (fun k => spec_l06Orbit.l1 k o.l (o.ws.map wordB) i Y 2 j) res := by
  have hs := h.val _ (sfAt_mem i0 i1)
  have hs2 := stepC_ok (c := c) hs
  have hsm := sf_small h hn
  have lw := h.lw
  have hw := h.sz _ (wAt_mem (ws := o.ws) i0 (by omega))
  have e1 : rd_T27 o.l i = sfAt o.l i := rfl
  have ht := letter_trans hs.1 (c.toNat : Int)
  have wj : wrap64 (j + 1) = j + 1 := pw_wrap (by omega) (by omega)
  refine ev_up ?_
  simp only [spec_l06Orbit.l1, if_pos j1, if_pos j0, hY, show ((2 : Nat) : Int) = 2 from rfl, if_pos i0, if_pos i1, e1, hr, wj]
  refine Ev.bind (spec_letter hs.1 c hc) ?_
  refine Ev.bind (spec_canon ht.1) ?_
  have ex : (canonS (letterR (sfAt o.l i).f0 (sfAt o.l i).f1 (c.toNat : Int)) (letterU (sfAt o.l i).f0 (sfAt o.l i).f1 (c.toNat : Int))) = stepC c (sfAt o.l i) := rfl
  rw [ex]
  refine Ev.bind (spec_find (stepC c (sfAt o.l i)) o.l (by omega) hsm) ?_
  by_cases f : findS (stepC c (sfAt o.l i)) o.l 0 < 0
  · have e2 : orbStep c i o = orbNext c o.l.length (orbAdd c i (stepC c (sfAt o.l i)) o) := if_pos f
    obtain ⟨g1, g2, _, _⟩ := orbNext_l c (o.l.length : Int) (orbAdd c i (stepC c (sfAt o.l i)) o)
    rw [e2, g1, g2] at hn2
    have hm : (o.ws.map wordB).length = o.ws.length := List.length_map ..
    have es1 : (wordB (wAt o.ws i)).size = (wAt o.ws i).length := wordB_size _
    have es2 : (wordB [c]).size = 1 := wordB_size _
    simp only [if_pos f, if_pos (show o.l.length < 2932031007402 by omega), hm, if_pos (show i < (o.ws.length : Int) by omega), Option.bind_some, strOf_one, rdB_map o.ws i0 (by omega), es1, es2, if_pos (show (wAt o.ws i).length + 1 ≤ 9223372036854775807 by omega), if_pos (show o.ws.length < 8796093022208 by omega), wordB_app2]
    have e3 : (⟨(stepC c (sfAt o.l i)).f0, (stepC c (sfAt o.l i)).f1⟩ : Sf) = stepC c (sfAt o.l i) := rfl
    rw [e3]
    have e4 : o.ws.map wordB ++ [wordB (wAt o.ws i ++ [c])] = (orbAdd c i (stepC c (sfAt o.l i)) o).ws.map wordB := by simp [orbAdd]
    rw [e4]
    exact hn2
  · have e2 : orbStep c i o = orbNext c (findS (stepC c (sfAt o.l i)) o.l 0) o := if_neg f
    obtain ⟨g1, g2, _, _⟩ := orbNext_l c (findS (stepC c (sfAt o.l i)) o.l 0) o
    rw [e2, g1, g2] at hn2
    simp only [if_neg f]
    exact hn2
def orbR (q : Option Orb) : List Sf × List ByteArray × Bool := match q with
  | none => ([], [], false)
  | some o => (o.l, o.ws.map wordB, true)
theorem spec_orb_go {n : Nat} (hn : n ≤ 24) : ∀ (d : Nat) (i : Int) (o : Orb), OrbI n o → 0 ≤ i → i ≤ o.l.length → o.l.length ≤ 120 → (122 : Int) ≤ d + i → Ev (fun k => spec_l06Orbit.l0 k o.l (o.ws.map wordB) i) (orbR (orbGo d i o))
  | 0, i, o, _, _, hi, hl, hd => by omega
  | d + 1, i, o, h, i0, hi, hl, hd => by
    rw [orbGo]
    by_cases c : i < o.l.length
    · rw [if_pos c]
      obtain ⟨h1, a1, b1⟩ := orbStep_I h i0 c (c := 84) (by decide)
      obtain ⟨h2, a2, b2⟩ := orbStep_I h1 i0 (by omega) (c := 83) (by decide)
      refine ev_up ?_
      simp only [spec_l06Orbit.l0, if_pos c, Option.bind_some]
      have y2 : (([84, 83] : List Int).length : Int) = 2 := rfl
      rw [y2]
      refine spec_orb_step h hn (by omega) i0 c [84, 83] rfl 0 (by omega) (by omega) 84 (.inl rfl) rfl _ ?_
      refine spec_orb_step h1 hn (by omega) i0 (by omega) [84, 83] rfl 1 (by omega) (by omega) 83 (.inr rfl) rfl _ ?_
      refine ev_up ?_
      simp only [spec_l06Orbit.l1, if_neg (show ¬ (1 + 1 : Int) < 2 by omega)]
      by_cases f : (orbStep 83 i (orbStep 84 i o)).l.length > 120
      · rw [if_pos f]
        simp only [if_pos (show (((orbStep 83 i (orbStep 84 i o)).l.length : Nat) : Int) > 120 by omega)]
        exact Ev.now _
      · rw [if_neg f]
        simp only [if_neg (show ¬ (((orbStep 83 i (orbStep 84 i o)).l.length : Nat) : Int) > 120 by omega), pw_wrap (a := i + 1) (by omega) (by omega)]
        exact spec_orb_go hn d (i + 1) _ h2 (by omega) (by omega) (by omega) (by omega)
    · rw [if_neg c]
      refine ev_up ?_
      simp only [spec_l06Orbit.l0, if_neg c]
      exact Ev.now _
theorem orb0_I {r u : List Int} (h : transB r u = true) : OrbI r.length (orb0 r u) := by
  refine ⟨fun s hs => ?_, rfl, rfl, rfl, fun w hw => ?_⟩
  · have e : s = canonS r u := by simpa [orb0] using hs
    rw [e]
    exact ⟨canon_trans h, (canonS_len h).1⟩
  · have e : w = [] := by simpa [orb0] using hw
    rw [e]
    exact ⟨by simp, fun c hc => by simp at hc⟩
theorem spec_orbit {r u : List Int} (h : transB r u = true) : Ev (fun k => spec_l06Orbit.f k r u) (orbR (orbOf r u)) := by
  have n := (transB_side h).1.1
  unfold spec_l06Orbit.f
  refine Ev.bind (spec_canon h) ?_
  have := spec_orb_go n 122 0 (orb0 r u) (orb0_I h) (by omega) (by simp [orb0]) (by simp [orb0]) (by omega)
  exact this

/-! The tree of the words by which the surfaces of an orbit were found. -/
def runC (w : List UInt8) (s : Sf) : Sf := w.foldl (fun s c => stepC c s) s
structure OrbC (o : Orb) : Prop where
  n1 : 1 ≤ o.l.length
  nd : o.l.Nodup
  run : ∀ k : Int, 0 ≤ k → k < o.l.length → sfAt o.l k = runC (wAt o.ws k) (sfAt o.l 0)
  w0 : wAt o.ws 0 = []
  f0 : rd o.fr 0 = -1
  par : ∀ k : Int, 1 ≤ k → k < o.l.length → 0 ≤ rd o.fr k ∧ rd o.fr k < k ∧ ∃ c : UInt8, (c = 84 ∨ c = 83) ∧ rd o.bs k = (c.toNat : Int) ∧ wAt o.ws k = wAt o.ws (rd o.fr k) ++ [c]
  mono : ∀ a b : Int, 0 ≤ a → a ≤ b → b < o.l.length → (wAt o.ws a).length ≤ (wAt o.ws b).length
structure Ext (o o' : Orb) : Prop where
  le : o.l.length ≤ o'.l.length
  sf : ∀ k : Int, 0 ≤ k → k < o.l.length → sfAt o'.l k = sfAt o.l k
  w : ∀ k : Int, 0 ≤ k → k < o.l.length → wAt o'.ws k = wAt o.ws k
theorem Ext.trans {a b c : Orb} (h : Ext a b) (g : Ext b c) : Ext a c :=
  ⟨Nat.le_trans h.le g.le, fun k k0 k1 => by rw [g.sf k k0 (by have := h.le; omega), h.sf k k0 k1], fun k k0 k1 => by rw [g.w k k0 (by have := h.le; omega), h.w k k0 k1]⟩
theorem Ext.refl (a : Orb) : Ext a a := ⟨Nat.le_refl _, fun _ _ _ => rfl, fun _ _ _ => rfl⟩
theorem sfAt_app {l : List Sf} (x : Sf) {k : Int} (k0 : 0 ≤ k) (k1 : k < l.length) : sfAt (l ++ [x]) k = sfAt l k := by
  have h : k.toNat < l.length := by omega
  simp [sfAt, rd_T27, List.getD, List.getElem?_append_left h]
theorem sfAt_end (l : List Sf) (x : Sf) : sfAt (l ++ [x]) l.length = x := by
  simp [sfAt, rd_T27, List.getD]
theorem wAt_app {l : List (List UInt8)} (x : List UInt8) {k : Int} (k0 : 0 ≤ k) (k1 : k < l.length) : wAt (l ++ [x]) k = wAt l k := by
  have h : k.toNat < l.length := by omega
  simp [wAt, List.getD, List.getElem?_append_left h]
theorem wAt_end (l : List (List UInt8)) (x : List UInt8) : wAt (l ++ [x]) l.length = x := by
  simp [wAt, List.getD]
theorem rd_app {l : List Int} (x : Int) {k : Int} (k0 : 0 ≤ k) (k1 : k < l.length) : rd (l ++ [x]) k = rd l k := by
  have h : k.toNat < l.length := by omega
  simp [rd, List.getD, List.getElem?_append_left h]
theorem rd_end (l : List Int) (x : Int) : rd (l ++ [x]) l.length = x := by
  simp [rd, List.getD]
theorem sfAt_get {l : List Sf} {k : Int} {x : Sf} (k0 : 0 ≤ k) (h : l[k.toNat]? = some x) : sfAt l k = x := by
  simp [sfAt, rd_T27, List.getD, h]
def nextsOf (c : UInt8) (k : Int) (o o' : Orb) : Prop := if c = 84 then o'.nt = o.nt ++ [k] ∧ o'.ns = o.ns else o'.nt = o.nt ∧ o'.ns = o.ns ++ [k]
theorem orbNext_n (c : UInt8) (k : Int) (o : Orb) : nextsOf c k o (orbNext c k o) := by
  unfold nextsOf orbNext
  split <;> exact ⟨rfl, rfl⟩
theorem step_C {n : Nat} {o : Orb} (h : OrbI n o) (C : OrbC o) {i : Int} (i0 : 0 ≤ i) (i1 : i < o.l.length) (B : ∀ b : Int, 0 ≤ b → b < o.l.length → (wAt o.ws b).length ≤ (wAt o.ws i).length + 1) {c : UInt8} (hc : c = 84 ∨ c = 83) :
    ∃ k : Int, OrbC (orbStep c i o) ∧ Ext o (orbStep c i o) ∧ 0 ≤ k ∧ k < (orbStep c i o).l.length ∧ sfAt (orbStep c i o).l k = stepC c (sfAt o.l i) ∧ (∀ b : Int, 0 ≤ b → b < (orbStep c i o).l.length → (wAt (orbStep c i o).ws b).length ≤ (wAt o.ws i).length + 1) ∧ nextsOf c k o (orbStep c i o) := by
  have lw := h.lw
  have lf := h.lf
  have lb := h.lb
  have n1 := C.n1
  rcases findS_spec (stepC c (sfAt o.l i)) o.l 0 (Int.le_refl 0) with ⟨f1, f2⟩ | ⟨f1, f2, f3⟩
  · have e : orbStep c i o = orbNext c o.l.length (orbAdd c i (stepC c (sfAt o.l i)) o) := if_pos (by omega)
    obtain ⟨g1, g2, g3, g4⟩ := orbNext_l c (o.l.length : Int) (orbAdd c i (stepC c (sfAt o.l i)) o)
    have el : (orbStep c i o).l = o.l ++ [stepC c (sfAt o.l i)] := by rw [e, g1]; rfl
    have ew : (orbStep c i o).ws = o.ws ++ [wAt o.ws i ++ [c]] := by rw [e, g2]; rfl
    have ef : (orbStep c i o).fr = o.fr ++ [i] := by rw [e, g3]; rfl
    have eb : (orbStep c i o).bs = o.bs ++ [(c.toNat : Int)] := by rw [e, g4]; rfl
    have ll : ((orbStep c i o).l.length : Int) = o.l.length + 1 := by rw [el]; simp
    have hsf : ∀ k : Int, 0 ≤ k → k < o.l.length → sfAt (orbStep c i o).l k = sfAt o.l k := fun k k0 k1 => by rw [el, sfAt_app _ k0 k1]
    have hww : ∀ k : Int, 0 ≤ k → k < o.l.length → wAt (orbStep c i o).ws k = wAt o.ws k := fun k k0 k1 => by rw [ew, wAt_app _ k0 (by omega)]
    have hsE : sfAt (orbStep c i o).l o.l.length = stepC c (sfAt o.l i) := by rw [el, sfAt_end]
    have hwE : wAt (orbStep c i o).ws o.l.length = wAt o.ws i ++ [c] := by rw [ew, ← lw, wAt_end]
    have bE : ∀ b : Int, 0 ≤ b → b < (orbStep c i o).l.length → (wAt (orbStep c i o).ws b).length ≤ (wAt o.ws i).length + 1 := fun b b0 b1 => by
      by_cases q : b < o.l.length
      · rw [hww b b0 q]
        exact B b b0 q
      · rw [show b = (o.l.length : Int) by omega, hwE]
        simp
    refine ⟨o.l.length, ⟨by omega, ?_, ?_, ?_, ?_, ?_, ?_⟩, ⟨by omega, hsf, hww⟩, by omega, by omega, hsE, bE, ?_⟩
    · rw [el, List.nodup_append]
      refine ⟨C.nd, by simp, fun a ha b hb q => ?_⟩
      rw [List.mem_singleton] at hb
      rw [q, hb] at ha
      exact f2 ha
    · intro k k0 k1
      rw [hsf 0 (by omega) (by omega)]
      by_cases q : k < o.l.length
      · rw [hsf k k0 q, hww k k0 q]
        exact C.run k k0 q
      · rw [show k = (o.l.length : Int) by omega, hsE, hwE, C.run i i0 i1]
        unfold runC
        rw [List.foldl_append]
        rfl
    · rw [hww 0 (by omega) (by omega)]
      exact C.w0
    · rw [ef, rd_app _ (by omega) (by omega)]
      exact C.f0
    · intro k k0 k1
      by_cases q : k < o.l.length
      · obtain ⟨p1, p2, d, p3, p4, p5⟩ := C.par k k0 q
        rw [ef, rd_app _ (by omega) (by omega), eb, rd_app _ (by omega) (by omega), hww k (by omega) q]
        refine ⟨p1, p2, d, p3, p4, ?_⟩
        rw [hww _ p1 (by omega)]
        exact p5
      · have ek : k = (o.l.length : Int) := by omega
        have e1 : rd (orbStep c i o).fr k = i := by rw [ef, ek, ← lf, rd_end]
        have e2 : rd (orbStep c i o).bs k = (c.toNat : Int) := by rw [eb, ek, ← lb, rd_end]
        rw [e1, e2]
        refine ⟨i0, by omega, c, hc, rfl, ?_⟩
        rw [ek, hwE, hww i i0 i1]
    · intro a b a0 ab b1
      by_cases q : b < o.l.length
      · rw [hww a a0 (by omega), hww b (by omega) q]
        exact C.mono a b a0 ab q
      · have h1 := bE a a0 (by omega)
        rw [show b = (o.l.length : Int) by omega, hwE]
        simp only [List.length_append, List.length_singleton]
        exact h1
    · rw [e]
      have := orbNext_n c (o.l.length : Int) (orbAdd c i (stepC c (sfAt o.l i)) o)
      exact this
  · have e : orbStep c i o = orbNext c (findS (stepC c (sfAt o.l i)) o.l 0) o := if_neg (by omega)
    obtain ⟨g1, g2, g3, g4⟩ := orbNext_l c (findS (stepC c (sfAt o.l i)) o.l 0) o
    have el : (orbStep c i o).l = o.l := by rw [e, g1]
    have ew : (orbStep c i o).ws = o.ws := by rw [e, g2]
    have ef : (orbStep c i o).fr = o.fr := by rw [e, g3]
    have eb : (orbStep c i o).bs = o.bs := by rw [e, g4]
    rw [Int.sub_zero] at f3
    refine ⟨findS (stepC c (sfAt o.l i)) o.l 0, ⟨?_, ?_, ?_, ?_, ?_, ?_, ?_⟩, ⟨?_, ?_, ?_⟩, f1, by rw [el]; omega, by rw [el]; exact sfAt_get f1 f3, ?_, ?_⟩
    · rw [el]; exact n1
    · rw [el]; exact C.nd
    · rw [el, ew]; exact C.run
    · rw [ew]; exact C.w0
    · rw [ef]; exact C.f0
    · rw [el, ef, eb, ew]; exact C.par
    · rw [el, ew]; exact C.mono
    · rw [el]; exact Nat.le_refl _
    · rw [el]; exact fun _ _ _ => rfl
    · rw [ew]; exact fun _ _ _ => rfl
    · rw [el, ew]; exact B
    · rw [e]; exact orbNext_n c _ o
structure OrbN (c : UInt8) (m : List Int) (i : Int) (o : Orb) : Prop where
  len : (m.length : Int) = i
  at_ : ∀ j : Int, 0 ≤ j → j < i → 0 ≤ rd m j ∧ rd m j < o.l.length ∧ sfAt o.l (rd m j) = stepC c (sfAt o.l j) ∧ (wAt o.ws (rd m j)).length ≤ (wAt o.ws j).length + 1
theorem OrbN.ext {c : UInt8} {m : List Int} {i : Int} {o o' : Orb} (h : OrbN c m i o) (e : Ext o o') (hi : i ≤ o.l.length) : OrbN c m i o' := by
  refine ⟨h.len, fun j j0 j1 => ?_⟩
  obtain ⟨a, b, d, f⟩ := h.at_ j j0 j1
  have le := e.le
  refine ⟨a, by omega, ?_, ?_⟩
  · rw [e.sf _ a b, e.sf j j0 (by omega)]
    exact d
  · rw [e.w _ a b, e.w j j0 (by omega)]
    exact f
theorem OrbN.add {c : UInt8} {m : List Int} {i k : Int} {o : Orb} (h : OrbN c m i o) (i0 : 0 ≤ i) (k0 : 0 ≤ k) (k1 : k < o.l.length) (hs : sfAt o.l k = stepC c (sfAt o.l i)) (hw : (wAt o.ws k).length ≤ (wAt o.ws i).length + 1) : OrbN c (m ++ [k]) (i + 1) o := by
  have hl := h.len
  refine ⟨by simp; omega, fun j j0 j1 => ?_⟩
  by_cases q : j < i
  · rw [rd_app _ j0 (by omega)]
    exact h.at_ j j0 q
  · have ej : j = (m.length : Int) := by omega
    rw [ej, rd_end, hl]
    exact ⟨k0, k1, hs, hw⟩
structure OrbF (n : Nat) (o : Orb) : Prop where
  i : OrbI n o
  c : OrbC o
  nt : OrbN 84 o.nt o.l.length o
  ns : OrbN 83 o.ns o.l.length o
  few : o.l.length ≤ 120
/-- What the whole search gives. -/
theorem orbGo_F {n : Nat} : ∀ (d : Nat) (i : Int) (o : Orb), OrbI n o → OrbC o → OrbN 84 o.nt i o → OrbN 83 o.ns i o → 0 ≤ i → i ≤ o.l.length → o.l.length ≤ 120 → (i < o.l.length → ∀ b : Int, 0 ≤ b → b < o.l.length → (wAt o.ws b).length ≤ (wAt o.ws i).length + 1) → ∀ q, orbGo d i o = some q → OrbF n q
  | 0, _, _, _, _, _, _, _, _, _, _, q, e => by simp [orbGo] at e
  | d + 1, i, o, h, C, N1, N2, i0, hi, hl, B, q, e => by
    rw [orbGo] at e
    by_cases c : i < o.l.length
    · rw [if_pos c] at e
      obtain ⟨h1, a1, b1⟩ := orbStep_I h i0 c (c := 84) (by decide)
      obtain ⟨h2, a2, b2⟩ := orbStep_I h1 i0 (by omega) (c := 83) (by decide)
      obtain ⟨k, C1, X1, k0, k1, ks, B1, n1⟩ := step_C h C i0 c (B c) (c := 84) (.inl rfl)
      have w1 : wAt (orbStep 84 i o).ws i = wAt o.ws i := X1.w i i0 c
      have B1' : ∀ b : Int, 0 ≤ b → b < (orbStep 84 i o).l.length → (wAt (orbStep 84 i o).ws b).length ≤ (wAt (orbStep 84 i o).ws i).length + 1 := fun b b0 bl => by rw [w1]; exact B1 b b0 bl
      obtain ⟨k', C2, X2, k0', k1', ks', B2, n2⟩ := step_C h1 C1 i0 (by omega) B1' (c := 83) (.inr rfl)
      have n1' : (orbStep 84 i o).nt = o.nt ++ [k] ∧ (orbStep 84 i o).ns = o.ns := n1
      have n2' : (orbStep 83 i (orbStep 84 i o)).nt = (orbStep 84 i o).nt ∧ (orbStep 83 i (orbStep 84 i o)).ns = (orbStep 84 i o).ns ++ [k'] := n2
      by_cases f : (orbStep 83 i (orbStep 84 i o)).l.length > 120
      · rw [if_pos f] at e
        exact absurd e (by simp)
      · rw [if_neg f] at e
        have M1 : OrbN 84 (o.nt ++ [k]) (i + 1) (orbStep 84 i o) := (N1.ext X1 hi).add i0 k0 k1 (by rw [X1.sf i i0 c]; exact ks) (by rw [w1]; exact B1 k k0 k1)
        have M2 : OrbN 83 (o.ns ++ [k']) (i + 1) (orbStep 83 i (orbStep 84 i o)) := ((N2.ext X1 hi).ext X2 (by omega)).add i0 k0' k1' (by rw [X2.sf i i0 (by omega)]; exact ks') (by rw [X2.w i i0 (by omega)]; exact B2 k' k0' k1')
        refine orbGo_F d (i + 1) _ h2 C2 ?_ ?_ (by omega) (by omega) (by omega) ?_ q e
        · rw [n2'.1, n1'.1]
          exact M1.ext X2 (by omega)
        · rw [n2'.2, n1'.2]
          exact M2
        · intro hlt b b0 bl
          have h3 := B2 b b0 bl
          have h4 := C2.mono i (i + 1) i0 (by omega) hlt
          rw [X2.w i i0 (by omega)] at h4
          omega
    · rw [if_neg c] at e
      have e := Option.some.inj e
      subst e
      have ei : i = (o.l.length : Int) := by omega
      subst ei
      exact ⟨h, C, N1, N2, hl⟩
theorem orbOf_F {r u : List Int} (h0 : OrbI r.length (orb0 r u)) {q : Orb} (e : orbOf r u = some q) : OrbF r.length q := by
  refine orbGo_F 122 0 (orb0 r u) h0 ⟨by simp [orb0], by simp [orb0], ?_, rfl, rfl, ?_, ?_⟩ ⟨rfl, fun j j0 j1 => by omega⟩ ⟨rfl, fun j j0 j1 => by omega⟩ (by omega) (by simp [orb0]) (by simp [orb0]) ?_ q e
  · intro k k0 k1
    have e1 : k = 0 := by simp [orb0] at k1; omega
    subst e1
    rfl
  · intro k k0 k1
    simp [orb0] at k1
    omega
  · intro a b a0 ab b1
    simp [orb0] at b1
    rw [show a = b by omega]
    exact Nat.le_refl _
  · intro _ b b0 b1
    simp [orb0] at b1
    rw [show b = 0 by omega]
    exact Nat.le_succ _
theorem nodup_get {α : Type} {l : List α} (h : l.Nodup) {i j : Nat} (hi : i < l.length) (hj : j < l.length) (e : l[i] = l[j]) : i = j := by
  have hp := List.pairwise_iff_getElem.1 h
  rcases Nat.lt_trichotomy i j with q | q | q
  · exact absurd e (hp i j hi hj q)
  · exact q
  · exact absurd e.symm (hp j i hj hi q)
/-- Words tell surfaces. -/
theorem OrbF.w_inj {n : Nat} {o : Orb} (F : OrbF n o) {a b : Int} (a0 : 0 ≤ a) (a1 : a < o.l.length) (b0 : 0 ≤ b) (b1 : b < o.l.length) (e : wAt o.ws a = wAt o.ws b) : a = b := by
  have h1 := F.c.run a a0 a1
  have h2 := F.c.run b b0 b1
  rw [e, ← h2] at h1
  have ha : a.toNat < o.l.length := by omega
  have hb : b.toNat < o.l.length := by omega
  have ea : sfAt o.l a = o.l[a.toNat] := by simp [sfAt, rd_T27, List.getD, ha]
  have eb : sfAt o.l b = o.l[b.toNat] := by simp [sfAt, rd_T27, List.getD, hb]
  rw [ea, eb] at h1
  have := nodup_get F.c.nd ha hb h1
  omega
/-- The index that the search finds is the one that was noted. -/
theorem OrbF.find {n : Nat} {o : Orb} (F : OrbF n o) {k : Int} (k0 : 0 ≤ k) (k1 : k < o.l.length) : findS (sfAt o.l k) o.l 0 = k := by
  rcases findS_spec (sfAt o.l k) o.l 0 (Int.le_refl 0) with ⟨_, f2⟩ | ⟨f1, f2, f3⟩
  · exact absurd (sfAt_mem k0 k1) f2
  · rw [Int.sub_zero] at f3
    have ha : (findS (sfAt o.l k) o.l 0).toNat < o.l.length := by omega
    have hb : k.toNat < o.l.length := by omega
    have eb : sfAt o.l k = o.l[k.toNat] := by simp [sfAt, rd_T27, List.getD, hb]
    rw [List.getElem?_eq_getElem ha] at f3
    have f4 := Option.some.inj f3
    have := nodup_get F.c.nd ha hb (f4.trans eb)
    omega
/-- Where a step leads that begins the found word: both ways of asking are one. -/
theorem OrbF.same {n : Nat} {o : Orb} (F : OrbF n o) {c : UInt8} {i k : Int} (i0 : 0 ≤ i) (i1 : i < o.l.length) (k0 : 0 ≤ k) (k1 : k < o.l.length) : wAt o.ws i ++ [c] = wAt o.ws k ↔ rd o.fr k = i ∧ rd o.bs k = (c.toNat : Int) := by
  by_cases q : k = 0
  · subst q
    rw [F.c.w0, F.c.f0]
    constructor
    · intro e
      simp at e
    · rintro ⟨e, _⟩
      omega
  · obtain ⟨p1, p2, d, p3, p4, p5⟩ := F.c.par k (by omega) k1
    rw [p5, p4]
    constructor
    · intro e
      obtain ⟨e1, e2⟩ := List.append_inj' e rfl
      have := F.w_inj i0 i1 p1 (by omega) e1
      refine ⟨this.symm, ?_⟩
      have e3 : c = d := by simpa using e2
      rw [e3]
    · rintro ⟨e1, e2⟩
      rw [e1]
      have e3 : d.toNat = c.toNat := by omega
      rw [UInt8.toNat_inj.1 e3]

/-! The words that generate. -/
/-! The program's. -/
theorem idx_find (x : Sf) (l : List Sf) (hl : l.length ≤ 1000) (hx : ∀ s ∈ l, s.f0.length ≤ 1000 ∧ s.f1.length ≤ 1000) : ∀ (suf pre : List Sf), l = pre ++ suf → Ev (fun k => idxGo k x.f0 x.f1 suf (pre.length : Int)) (findS x suf pre.length)
  | [], pre, e => Ev.now _
  | y :: suf, pre, e => by
    have hlen : l.length = pre.length + suf.length + 1 := by rw [e]; simp; omega
    have hy := hx y (by rw [e]; simp)
    have hw : wrap64 ((pre.length : Int) + 1) = ((pre ++ [y]).length : Int) := by rw [pw_wrap (by omega) (by omega)]; simp
    simp only [idxGo, hw]
    refine Ev.bind (impl_sameS y x hy.1 hy.2) ?_
    rw [findS]
    have es : sameF y x = (decide (y.f0 = x.f0) && decide (y.f1 = x.f1)) := rfl
    rw [es]
    by_cases c : (decide (y.f0 = x.f0) && decide (y.f1 = x.f1)) = true
    · simp only [if_pos c]
      exact Ev.now _
    · simp only [if_neg c]
      have := idx_find x l hl hx suf (pre ++ [y]) (by simp [e])
      have e3 : ((pre ++ [y]).length : Int) = (pre.length : Int) + 1 := by simp
      rw [e3] at this ⊢
      exact this
def toV (o : Orb) : OrbV := ⟨o.l, o.ws.map wordB, o.fr, o.bs, o.nt, o.ns⟩
theorem put_V (c : UInt8) (hc : c = 84 ∨ c = 83) (k : Int) (o : Orb) : orbPut (c.toNat : Int) k (toV o) = toV (orbNext c k o) := by
  rcases hc with rfl | rfl <;> rfl
theorem impl_orb_let {n : Nat} {o : Orb} (h : OrbI n o) (hn : n ≤ 24) (hl : o.l.length ≤ 120) {i : Int} (i0 : 0 ≤ i) (i1 : i < o.l.length) {c : UInt8} (hc : c = 84 ∨ c = 83) : Ev (fun k => orbLet k (c.toNat : Int) i (toV o)) (if (orbStep c i o).l.length > 120 then none else some (toV (orbStep c i o))) := by
  have hs := h.val _ (sfAt_mem i0 i1)
  have hsm := sf_small h hn
  have lw := h.lw
  have hw := h.sz _ (wAt_mem (ws := o.ws) i0 (by omega))
  have ht := letter_trans hs.1 (c.toNat : Int)
  have e1 : rd_T27 (toV o).l i = sfAt o.l i := rfl
  have hcn : (c.toNat : Int) = 84 ∨ (c.toNat : Int) = 116 ∨ (c.toNat : Int) = 83 ∨ (c.toNat : Int) = 115 := by rcases hc with rfl | rfl <;> decide
  unfold orbLet
  rw [e1]
  refine Ev.bind (impl_letter hs.1 _ hcn) ?_
  refine Ev.bind (impl_canon _ _) ?_
  have ec : canonR (letterR (sfAt o.l i).f0 (sfAt o.l i).f1 (c.toNat : Int)) (letterU (sfAt o.l i).f0 (sfAt o.l i).f1 (c.toNat : Int)) = ((stepC c (sfAt o.l i)).f0, (stepC c (sfAt o.l i)).f1, true) := if_pos ht.1
  rw [ec]
  refine Ev.bind (idx_find (stepC c (sfAt o.l i)) o.l (by omega) hsm o.l [] rfl) ?_
  have e0 : (([] : List Sf).length : Int) = 0 := rfl
  rw [e0]
  by_cases f : findS (stepC c (sfAt o.l i)) o.l 0 < 0
  · have e2 : orbStep c i o = orbNext c o.l.length (orbAdd c i (stepC c (sfAt o.l i)) o) := if_pos f
    obtain ⟨g1, _, _, _⟩ := orbNext_l c (o.l.length : Int) (orbAdd c i (stepC c (sfAt o.l i)) o)
    have ll : (orbStep c i o).l.length = o.l.length + 1 := by rw [e2, g1]; simp [orbAdd]
    rw [ll]
    have ev1 : (toV o).l = o.l := rfl
    have ev2 : (toV o).ws = o.ws.map wordB := rfl
    have hm : (o.ws.map wordB).length = o.ws.length := List.length_map ..
    have es1 : (wordB (wAt o.ws i)).size = (wAt o.ws i).length := wordB_size _
    simp only [if_pos f, ev1, ev2]
    by_cases g : o.l.length = 120
    · rw [if_pos (show (o.l.length : Int) = 120 by omega), if_pos (show o.l.length + 1 > 120 by omega)]
      exact Ev.now _
    · rw [if_neg (show ¬ (o.l.length : Int) = 120 by omega), if_neg (show ¬ o.l.length + 1 > 120 by omega)]
      simp only [hm, if_pos (show i < (o.ws.length : Int) by omega), rdB_map o.ws i0 (by omega), es1, if_pos (show (wAt o.ws i).length ≤ 1000 by omega), strOf_one, wordB_app2]
      rw [e2, ← put_V c hc]
      have e4 : (toV (orbAdd c i (stepC c (sfAt o.l i)) o)) = { toV o with l := o.l ++ [stepC c (sfAt o.l i)], ws := o.ws.map wordB ++ [wordB (wAt o.ws i ++ [c])], fr := o.fr ++ [i], bs := o.bs ++ [(c.toNat : Int)] } := by simp [toV, orbAdd]
      rw [e4]
      exact Ev.now _
  · have e2 : orbStep c i o = orbNext c (findS (stepC c (sfAt o.l i)) o.l 0) o := if_neg f
    obtain ⟨g1, _, _, _⟩ := orbNext_l c (findS (stepC c (sfAt o.l i)) o.l 0) o
    have ll : (orbStep c i o).l.length = o.l.length := by rw [e2, g1]
    rw [ll, if_neg (show ¬ o.l.length > 120 by omega)]
    simp only [if_neg f]
    rw [e2, ← put_V c hc]
    exact Ev.now _
theorem impl_orb_go {n : Nat} (hn : n ≤ 24) : ∀ (d : Nat) (i : Int) (o : Orb), OrbI n o → 0 ≤ i → i ≤ o.l.length → o.l.length ≤ 120 → (122 : Int) ≤ d + i → Ev (fun k => orbLoop k i (toV o)) ((orbGo d i o).map toV)
  | 0, i, o, _, _, hi, hl, hd => by omega
  | d + 1, i, o, h, i0, hi, hl, hd => by
    rw [orbGo]
    have ev1 : (toV o).l = o.l := rfl
    by_cases c : i < o.l.length
    · rw [if_pos c]
      obtain ⟨h1, a1, b1⟩ := orbStep_I h i0 c (c := 84) (by decide)
      obtain ⟨h2, a2, b2⟩ := orbStep_I h1 i0 (by omega) (c := 83) (by decide)
      refine ev_up ?_
      simp only [orbLoop, ev1, if_pos c]
      refine Ev.bind (impl_orb_let h hn hl i0 c (c := 84) (.inl rfl)) ?_
      by_cases f1 : (orbStep 84 i o).l.length > 120
      · rw [if_pos f1, if_pos (by omega)]
        exact Ev.now _
      · rw [if_neg f1]
        refine Ev.bind (impl_orb_let h1 hn (by omega) i0 (by omega) (c := 83) (.inr rfl)) ?_
        by_cases f2 : (orbStep 83 i (orbStep 84 i o)).l.length > 120
        · rw [if_pos f2, if_pos f2]
          exact Ev.now _
        · rw [if_neg f2, if_neg f2]
          simp only [pw_wrap (a := i + 1) (by omega) (by omega)]
          exact impl_orb_go hn d (i + 1) _ h2 (by omega) (by omega) (by omega) (by omega)
    · rw [if_neg c]
      refine ev_up ?_
      simp only [orbLoop, ev1, if_neg c]
      exact Ev.now _
theorem impl_orbit (r u : List Int) : Ev (fun k => impl_orbitOf.f k r u) (if transB r u = true then (orbOf r u).map toV else none) := by
  unfold impl_orbitOf.f
  refine Ev.bind (impl_canon r u) ?_
  by_cases h : transB r u = true
  · have n := (transB_side h).1.1
    have ec : canonR r u = ((canonS r u).f0, (canonS r u).f1, true) := if_pos h
    rw [ec]
    simp only [if_pos h, if_true]
    exact impl_orb_go n 122 0 (orb0 r u) (orb0_I h) (by omega) (by simp [orb0]) (by simp [orb0]) (by omega)
  · have ec : canonR r u = ([], [], false) := if_neg h
    rw [ec]
    simp only [if_neg h, Bool.false_eq_true, if_false]
    exact Ev.now _

/-! Descending lists: two that hold the same are one. -/
def Desc (l : List Int) : Prop := l.Pairwise fun x y => y ≤ x
theorem desc_unique : ∀ (a b : List Int), Desc a → Desc b → a.Perm b → a = b
  | [], b, _, _, h => by
    have := h.length_eq
    cases b with
    | nil => rfl
    | cons => simp at this
  | x :: a, b, ha, hb, h => by
    cases b with
    | nil => have := h.length_eq; simp at this
    | cons y b =>
      have hx : x ∈ y :: b := h.subset List.mem_cons_self
      have hy : y ∈ x :: a := h.symm.subset List.mem_cons_self
      have pa := List.pairwise_cons.1 ha
      have pb := List.pairwise_cons.1 hb
      have e : x = y := by
        rcases List.mem_cons.1 hx with e | hx
        · exact e
        · rcases List.mem_cons.1 hy with e | hy
          · exact e.symm
          · have h1 := pa.1 y hy
            have h2 := pb.1 x hx
            omega
      subst e
      rw [desc_unique a b pa.2 pb.2 ((List.perm_cons x).1 h)]
def sortD (l : List Int) : List Int := l.mergeSort fun x y => decide (y ≤ x)
theorem sortD_perm (l : List Int) : (sortD l).Perm l := List.mergeSort_perm _ _
theorem sortD_desc (l : List Int) : Desc (sortD l) := by
  have := List.pairwise_mergeSort (le := fun x y : Int => decide (y ≤ x)) (fun a b c h1 h2 => by simp at *; omega) (fun a b => by simp; omega) l
  exact this.imp (fun h => by simpa using h)
/-- Put in from the right end, as the reference does. -/
def insR (x : Int) : List Int → List Int → List Int
  | [], B => x :: B
  | a :: A, B => if a < x then insR x A (a :: B) else (a :: A).reverse ++ x :: B
def downL (l : List Int) : List Int := l.foldl (fun s x => insR x s.reverse []) []
theorem insR_perm (x : Int) : ∀ (A B : List Int), (insR x A B).Perm (x :: (A.reverse ++ B))
  | [], B => by simp [insR]
  | a :: A, B => by
    rw [insR]
    split
    · have h := insR_perm x A (a :: B)
      refine h.trans (List.Perm.cons x ?_)
      rw [List.reverse_cons, List.append_assoc]
      exact List.Perm.refl _
    · exact List.perm_middle
theorem insR_desc (x : Int) : ∀ (A B : List Int), Desc (A.reverse ++ B) → (∀ b ∈ B, b < x) → Desc (insR x A B)
  | [], B, hd, hB => by
    rw [insR]
    have hd2 : Desc B := by simpa using hd
    exact List.pairwise_cons.2 ⟨fun b hb => Int.le_of_lt (hB b hb), hd2⟩
  | a :: A, B, hd, hB => by
    rw [insR]
    split
    · rename_i c
      refine insR_desc x A (a :: B) (by simpa [List.append_assoc] using hd) (fun b hb => ?_)
      rcases List.mem_cons.1 hb with rfl | hb
      · exact c
      · exact hB b hb
    · rename_i c
      have hp := List.pairwise_append.1 hd
      refine List.pairwise_append.2 ⟨hp.1, List.pairwise_cons.2 ⟨fun b hb => Int.le_of_lt (hB b hb), hp.2.1⟩, fun y hy z hz => ?_⟩
      rcases List.mem_cons.1 hz with rfl | hz
      · have h2 : y = a ∨ a ≤ y := by
          rw [List.reverse_cons] at hy
          rcases List.mem_append.1 hy with h | h
          · right
            have q2 := List.pairwise_append.1 (by simpa [List.reverse_cons] using hp.1 : (A.reverse ++ [a]).Pairwise fun x y => y ≤ x)
            exact q2.2.2 y h a (by simp)
          · left
            simpa using h
        omega
      · exact hp.2.2 y hy z hz
theorem downL_go : ∀ (l s : List Int), Desc s → (l.foldl (fun s x => insR x s.reverse []) s).Perm (s ++ l) ∧ Desc (l.foldl (fun s x => insR x s.reverse []) s)
  | [], s, h => ⟨by simp, h⟩
  | x :: l, s, h => by
    have h1 := insR_desc x s.reverse [] (by simpa using h) (by simp)
    have h2 := insR_perm x s.reverse []
    have ih := downL_go l (insR x s.reverse []) h1
    refine ⟨ih.1.trans ?_, ih.2⟩
    simp only [List.reverse_reverse, List.append_nil] at h2
    exact (h2.append_right l).trans (List.perm_middle.symm)
theorem downL_sort (l : List Int) : downL l = sortD l := by
  have h := downL_go l [] List.Pairwise.nil
  refine desc_unique _ _ h.2 (sortD_desc l) (h.1.trans ?_)
  simpa using (sortD_perm l).symm
theorem spec_down_l1 (l : List Int) (j : Int) (x : Int) (res : List Int) (hj : 0 ≤ j ∧ j ≤ 100000) : ∀ (A B : List Int) (v : Int), A.length + B.length ≤ 100000 →
    Ev (fun k => spec_l04Down.l0 k (insR x A B) l (l.length : Int) (j + 1)) res → Ev (fun k => spec_l04Down.l1 k (A.reverse ++ v :: B) x (A.length : Int) l (l.length : Int) j) res
  | [], B, v, hb, hr => by
    refine ev_up ?_
    simp only [spec_l04Down.l1, List.length_nil, List.reverse_nil, List.nil_append, Int.natCast_zero, if_neg (show ¬ (0 : Int) > 0 by omega), if_pos (Int.le_refl 0), if_pos (show (0 : Int) < ((v :: B).length : Int) by simp only [List.length_cons]; omega), pw_wrap (a := j + 1) (by omega) (by omega)]
    exact hr
  | a :: A, B, v, hb, hr => by
    have hl : (((a :: A).reverse ++ v :: B).length : Int) = (A.length : Int) + 2 + B.length := by simp only [List.length_append, List.length_reverse, List.length_cons]; omega
    have hA : ((a :: A).length : Int) = (A.length : Int) + 1 := by simp
    have hw : wrap64 (((a :: A).length : Int) - 1) = (A.length : Int) := by rw [hA, pw_wrap (by simp at hb; omega) (by simp at hb; omega)]; omega
    have hrd : rd ((a :: A).reverse ++ v :: B) (A.length : Int) = a := by
      simp [rd, List.getD]
    have hset : ∀ y : Int, ((a :: A).reverse ++ v :: B).set ((a :: A).length : Int).toNat y = (a :: A).reverse ++ y :: B := fun y => by
      rw [Int.toNat_natCast, List.set_append_right _ _ (by simp)]
      simp
    refine ev_up ?_
    simp only [spec_l04Down.l1, if_pos (show ((a :: A).length : Int) > 0 by rw [hA]; omega), hw, if_pos (Int.natCast_nonneg A.length), if_pos (show (A.length : Int) < (((a :: A).reverse ++ v :: B).length : Int) by rw [hl]; omega), hrd, if_pos (Int.natCast_nonneg (a :: A).length), if_pos (show ((a :: A).length : Int) < (((a :: A).reverse ++ v :: B).length : Int) by rw [hl, hA]; omega), hset, pw_wrap (a := j + 1) (by omega) (by omega)]
    rw [insR] at hr
    by_cases c : a < x
    · simp only [if_pos c] at hr ⊢
      have ih := spec_down_l1 l j x res hj A (a :: B) a (by simp at hb ⊢; omega) hr
      rw [List.reverse_cons, List.append_assoc]
      exact ih
    · simp only [if_neg c] at hr ⊢
      exact hr
theorem spec_down_l0 (l : List Int) (hl : l.length ≤ 1000) : ∀ (suf pre s : List Int), l = pre ++ suf → s.length = pre.length → Ev (fun k => spec_l04Down.l0 k s l (l.length : Int) (pre.length : Int)) (suf.foldl (fun s x => insR x s.reverse []) s)
  | [], pre, s, e, hs => by
    have e2 : l = pre := by simpa using e
    subst e2
    refine ev_up ?_
    simp only [spec_l04Down.l0, if_neg (show ¬ ((l.length : Int) < l.length) by omega)]
    exact Ev.now _
  | x :: suf, pre, s, e, hs => by
    have hlen : l.length = pre.length + suf.length + 1 := by rw [e]; simp; omega
    have hx : rd l (pre.length : Int) = x := by rw [e]; exact rd_mid _ _ _
    refine ev_up ?_
    simp only [spec_l04Down.l0, if_pos (show ((pre.length : Int) < l.length) by omega), if_pos (Int.natCast_nonneg pre.length), if_pos (show s.length < 17592186044416 by omega), Option.bind_some, hx]
    have hw : wrap64 (((s ++ [0]).length : Int) - 1) = (s.reverse.length : Int) := by
      have hq : (s ++ [0]).length = s.length + 1 := by simp
      rw [hq, List.length_reverse, pw_wrap (by omega) (by omega)]
      omega
    rw [hw]
    have hp := (insR_perm x s.reverse []).length_eq
    have ih := spec_down_l0 l hl suf (pre ++ [x]) (insR x s.reverse []) (by simp [e]) (by simp at hp ⊢; omega)
    rw [List.foldl_cons]
    have := spec_down_l1 l (pre.length : Int) x _ ⟨by omega, by omega⟩ s.reverse [] 0 (by simp; omega) (by simpa using ih)
    rw [List.reverse_reverse] at this
    exact this
theorem spec_down (l : List Int) (hl : l.length ≤ 1000) : Ev (fun k => spec_l04Down.f k l) (sortD l) := by
  rw [← downL_sort]
  unfold spec_l04Down.f
  exact spec_down_l0 l hl l [] [] rfl rfl

/-! Cusps: the cycles of the shear. -/
def cf : List Bool → Nat
  | [] => 0
  | b :: l => (if b = true then 0 else 1) + cf l
theorem cf_len : ∀ l : List Bool, cf l ≤ l.length
  | [] => Nat.le_refl _
  | b :: l => by
    have := cf_len l
    rw [cf, List.length_cons]
    split <;> omega
theorem cf_set : ∀ (l : List Bool) (i : Nat), i < l.length → l.getD i false = false → cf (l.set i true) + 1 = cf l
  | [], i, h, _ => by simp at h
  | b :: l, 0, _, e => by
    have e : b = false := by simpa using e
    subst e
    simp [cf]
    omega
  | b :: l, i + 1, h, e => by
    have ih := cf_set l i (by simpa using h) (by simpa using e)
    rw [List.set_cons_succ, cf, cf]
    omega
theorem rdB_false (l : List Bool) (x : Int) : rdOf false l x = l.getD x.toNat false := rfl
theorem cusp_in (p : List Int) (d : Nat) (hd : d ≤ 120) (hp : p.length = d) (hb : ∀ x : Int, 0 ≤ x → x < d → 0 ≤ rd p x ∧ rd p x < d) (o6 : List Int) (ho : o6.length ≤ 1000) (b a : Int) : ∀ (f : Nat) (seen : List Bool) (x n : Int), cf seen ≤ f → seen.length = d → 0 ≤ x → x < d → 0 ≤ n → n + cf seen ≤ 120 →
    ∃ (s2 : List Bool) (n2 : Int), Ev (fun k => cuspIn p k seen x n) (s2, n2) ∧ s2.length = d ∧ 0 ≤ n2 ∧ n2 + cf s2 ≤ n + cf seen ∧ ∀ res, Ev (fun k => spec_CuspsOf.l0 k p (if n2 > 0 then o6 ++ [n2] else o6) s2 b (wrap64 (a + 1))) res → Ev (fun k => spec_CuspsOf.l1 k p o6 seen n x b a) res
  | f, seen, x, n, hf, hl, x0, x1, n0, hn => by
    by_cases c : rdOf false seen x = true
    · refine ⟨seen, n, ev_up ?_, hl, n0, Int.le_refl _, fun res hr => ev_up ?_⟩
      · have hc : 0 ≤ x ∧ x < (seen.length : Int) ∧ x < (p.length : Int) := ⟨x0, by omega, by omega⟩
        simp only [cuspIn, if_pos hc, if_pos c]
        exact Ev.now _
      · simp only [spec_CuspsOf.l1, if_pos x0, if_pos (show x < (seen.length : Int) by omega), if_pos c]
        by_cases g : n > 0
        · rw [if_pos g] at hr
          simp only [if_pos g, if_pos (show o6.length < 17592186044416 by omega)]
          exact hr
        · rw [if_neg g] at hr
          simp only [if_neg g]
          exact hr
    · have c2 : seen.getD x.toNat false = false := by
        rw [rdB_false] at c
        simpa using c
      have hs := cf_set seen x.toNat (by omega) c2
      have hx := hb x x0 x1
      have hls : (seen.set x.toNat true).length = d := by rw [List.length_set]; exact hl
      cases f with
      | zero => omega
      | succ f =>
        have hw : wrap64 (n + 1) = n + 1 := pw_wrap (by omega) (by omega)
        obtain ⟨s2, n2, e1, e2, e3, e4, e5⟩ := cusp_in p d hd hp hb o6 ho b a f (seen.set x.toNat true) (rd p x) (n + 1) (by omega) hls hx.1 hx.2 (by omega) (by omega)
        refine ⟨s2, n2, ev_up ?_, e2, e3, by omega, fun res hr => ev_up ?_⟩
        · have hc : 0 ≤ x ∧ x < (seen.length : Int) ∧ x < (p.length : Int) := ⟨x0, by omega, by omega⟩
          simp only [cuspIn, if_pos hc, if_neg c, hw]
          exact e1
        · simp only [spec_CuspsOf.l1, if_pos x0, if_pos (show x < (seen.length : Int) by omega), if_neg c, if_pos (show x < (p.length : Int) by omega), hw]
          exact e5 res hr
theorem cusp_go (p : List Int) (d : Nat) (hd : d ≤ 120) (hp : p.length = d) (hb : ∀ x : Int, 0 ≤ x → x < d → 0 ≤ rd p x ∧ rd p x < d) : ∀ (e : Nat) (i : Int) (seen : List Bool) (out : List Int), 0 ≤ i → i + e = d → seen.length = d → out.length ≤ i → (∀ x ∈ out, 0 ≤ x ∧ x ≤ 120) →
    ∃ q : List Int, Ev (fun k => cuspGo p d k i seen out) q ∧ q.length ≤ 120 ∧ (∀ x ∈ q, 0 ≤ x ∧ x ≤ 120) ∧ Ev (fun k => spec_CuspsOf.l0 k p out seen (d : Int) i) (sortD q, true)
  | 0, i, seen, out, i0, hi, hl, ho, hx => by
    refine ⟨out, ev_up ?_, by omega, hx, ev_up ?_⟩
    · simp only [cuspGo, if_neg (show ¬ i < (d : Int) by omega)]
      exact Ev.now _
    · simp only [spec_CuspsOf.l0, if_neg (show ¬ i < (d : Int) by omega)]
      refine Ev.bind (spec_down out (by omega)) ?_
      exact Ev.now _
  | e + 1, i, seen, out, i0, hi, hl, ho, hx => by
    have hcf := cf_len seen
    obtain ⟨s2, n2, e1, e2, e3, e4, e5⟩ := cusp_in p d hd hp hb out (by omega) (d : Int) i (cf seen) seen i 0 (Nat.le_refl _) hl i0 (by omega) (by omega) (by omega)
    have hw : wrap64 (i + 1) = i + 1 := pw_wrap (by omega) (by omega)
    have ho2 : ((if n2 > 0 then out ++ [n2] else out).length : Int) ≤ i + 1 := by
      split
      · rw [List.length_append, List.length_singleton]; omega
      · omega
    have hx2 : ∀ x ∈ (if n2 > 0 then out ++ [n2] else out), 0 ≤ x ∧ x ≤ 120 := fun x hm => by
      split at hm
      · rcases List.mem_append.1 hm with h | h
        · exact hx x h
        · rw [List.mem_singleton] at h
          omega
      · exact hx x hm
    obtain ⟨q, f1, f2, f3, f4⟩ := cusp_go p d hd hp hb e (i + 1) s2 _ (by omega) (by omega) e2 ho2 hx2
    refine ⟨q, ?_, f2, f3, ev_up ?_⟩
    · refine ev_up ?_
      simp only [cuspGo, if_pos (show i < (d : Int) by omega)]
      refine Ev.bind e1 ?_
      simp only [if_pos (show out.length ≤ 1000 by omega), hw]
      exact f1
    · simp only [spec_CuspsOf.l0, if_pos (show i < (d : Int) by omega)]
      refine e5 _ ?_
      rw [hw]
      exact f4
theorem rdS_at (l : List Sf) (x : Sf) (p s : List Sf) (e : l = p ++ x :: s) : rd_T27 l (p.length : Int) = x := by
  rw [e]
  simp [rd_T27, List.getD]
theorem spec_shear84 {r u : List Int} (h : transB r u = true) : Ev (fun k => spec_l05Shear.f k r u) (letterR r u 84, letterU r u 84) := by
  obtain ⟨pr, pu, he, hn, _⟩ := transB_side h
  have n := pr.1
  unfold spec_l05Shear.f letterR letterU
  simp only [if_true, Option.bind_some, if_pos (spec_copyL (l := r) (by omega)), List.nil_append]
  exact Ev.bind (spec_inv pr) (Ev.bind (spec_thn (inv_perm pr) (by rw [invL_len pr]; exact he)) (Ev.now _))
theorem spec_shears_l0 {n : Nat} {o : Orb} (F : OrbF n o) : ∀ (suf pre : List Sf), o.l = pre ++ suf → Ev (fun k => spec_l06Shears.l0 k o.l (o.nt.take pre.length) o.l (o.l.length : Int) (pre.length : Int)) o.nt
  | [], pre, e => by
    have e2 : o.l = pre := by simpa using e
    have hl := F.nt.len
    refine ev_up ?_
    rw [← e2]
    simp only [spec_l06Shears.l0, if_neg (show ¬ (o.l.length : Int) < (o.l.length : Int) by omega)]
    rw [List.take_of_length_le (by omega)]
    exact Ev.now _
  | x :: suf, pre, e => by
    have hlen : o.l.length = pre.length + suf.length + 1 := by rw [e]; simp; omega
    have few := F.few
    have hl := F.nt.len
    have hx := F.i.val x (by rw [e]; simp)
    have n24 : n ≤ 24 := by
      have := (transB_side hx.1).1.1
      omega
    have hsm := sf_small F.i n24
    have hrd := rdS_at o.l x pre suf e
    have ht := letter_trans hx.1 84
    have hw : wrap64 ((pre.length : Int) + 1) = ((pre ++ [x]).length : Int) := by rw [pw_wrap (by omega) (by omega)]; simp
    obtain ⟨q0, q1, q2, _⟩ := F.nt.at_ (pre.length : Int) (by omega) (by omega)
    have es : sfAt o.l (pre.length : Int) = x := hrd
    rw [es] at q2
    have hf := F.find q0 q1
    rw [q2] at hf
    refine ev_up ?_
    simp only [spec_l06Shears.l0, if_pos (show (pre.length : Int) < (o.l.length : Int) by omega), if_pos (show (0 : Int) ≤ (pre.length : Int) by omega), hrd, hw]
    refine Ev.bind (spec_shear84 hx.1) ?_
    refine Ev.bind (spec_canon ht.1) ?_
    have ex : canonS (letterR x.f0 x.f1 84) (letterU x.f0 x.f1 84) = stepC 84 x := rfl
    rw [ex]
    refine Ev.bind (spec_find (stepC 84 x) o.l (by omega) hsm) ?_
    rw [hf]
    have hk : (o.nt.take pre.length).length < 17592186044416 := by rw [List.length_take]; omega
    simp only [if_pos hk]
    have hn : pre.length < o.nt.length := by omega
    have et : o.nt.take pre.length ++ [rd o.nt (pre.length : Int)] = o.nt.take (pre ++ [x]).length := by
      have e1 : rd o.nt (pre.length : Int) = o.nt[pre.length] := by simp [rd, List.getD, hn]
      rw [e1, List.length_append, List.length_singleton, List.take_succ_eq_append_getElem hn]
    rw [et]
    exact spec_shears_l0 F suf (pre ++ [x]) (by simp [e])
theorem spec_shears {n : Nat} {o : Orb} (F : OrbF n o) : Ev (fun k => spec_l06Shears.f k o.l) o.nt := spec_shears_l0 F o.l [] rfl
def indexV (r u : List Int) : Int := if transB r u = true then (match orbOf r u with | none => -1 | some o => (o.l.length : Int)) else -1
theorem spec_orbitOf (r u : List Int) : Ev (fun k => spec_OrbitOf.f k r u) (if transB r u = true then (match orbOf r u with | none => ([], false) | some o => (o.l, true)) else ([], false)) := by
  unfold spec_OrbitOf.f
  refine Ev.bind (spec_surfOk r u) ?_
  by_cases h : transB r u = true
  · simp only [if_pos h]
    refine Ev.bind (spec_orbit h) ?_
    cases e : orbOf r u with
    | none => exact Ev.now _
    | some o => exact Ev.now _
  · simp only [if_neg h]
    exact Ev.now _
theorem spec_index (r u : List Int) : Ev (fun k => spec_IndexOf.f k r u) (indexV r u) := by
  unfold spec_IndexOf.f indexV
  refine Ev.bind (spec_orbitOf r u) ?_
  by_cases h : transB r u = true
  · simp only [if_pos h]
    cases e : orbOf r u with
    | none => exact Ev.now _
    | some o => exact Ev.now _
  · simp only [if_neg h]
    exact Ev.now _
theorem impl_index (r u : List Int) : Ev (fun k => impl_IndexOf.f k r u) (indexV r u) := by
  unfold impl_IndexOf.f indexV
  refine Ev.bind (impl_orbit r u) ?_
  by_cases h : transB r u = true
  · simp only [if_pos h]
    cases e : orbOf r u with
    | none => exact Ev.now _
    | some o => exact Ev.now _
  · simp only [if_neg h]
    exact Ev.now _
/-- Both answer the same cusps. -/
theorem both_cusps (r u : List Int) : ∃ (q : List Int) (b : Bool), Ev (fun k => spec_CuspsOf.f k r u) (q, b) ∧ Ev (fun k => impl_CuspsOf.f k r u) (q, b) ∧ q.length ≤ 120 ∧ (∀ x ∈ q, 0 ≤ x ∧ x ≤ 120) := by
  by_cases h : transB r u = true
  · cases e : orbOf r u with
    | none =>
      refine ⟨[], false, ?_, ?_, by simp, by simp⟩
      · unfold spec_CuspsOf.f
        refine Ev.bind (spec_orbitOf r u) ?_
        simp only [if_pos h, e, Bool.false_eq_true, if_false]
        exact Ev.now _
      · unfold impl_CuspsOf.f
        refine Ev.bind (impl_orbit r u) ?_
        simp only [if_pos h, e, Option.map_none]
        exact Ev.now _
    | some o =>
      have F := orbOf_F (orb0_I h) e
      have few := F.few
      have hl : o.nt.length = o.l.length := by have := F.nt.len; omega
      obtain ⟨q, f1, f2, f3, f4⟩ := cusp_go o.nt o.l.length few hl (fun x x0 x1 => by have := F.nt.at_ x x0 x1; exact ⟨this.1, this.2.1⟩) o.l.length 0 (List.replicate o.l.length false) [] (by omega) (by omega) (by simp) (by simp) (by simp)
      have hp := sortD_perm q
      refine ⟨sortD q, true, ?_, ?_, by rw [hp.length_eq]; exact f2, fun x hx => f3 x (hp.mem_iff.1 hx)⟩
      · unfold spec_CuspsOf.f
        refine Ev.bind (spec_orbitOf r u) ?_
        simp only [if_pos h, e, if_true]
        refine Ev.bind (spec_shears F) ?_
        have et : ((o.nt.length : Int)).toNat = o.l.length := by omega
        simp only [hl, Int.toNat_natCast, if_pos (show (0 : Int) ≤ (o.l.length : Int) by omega), if_pos (show o.l.length ≤ 281474976710656 by omega)]
        exact f4
      · unfold impl_CuspsOf.f
        refine Ev.bind (impl_orbit r u) ?_
        have ev1 : (toV o).l = o.l := rfl
        have ev5 : (toV o).nt = o.nt := rfl
        simp only [if_pos h, e, Option.map_some, ev1, ev5, if_pos (show o.l.length ≤ 1000 by omega)]
        refine Ev.bind f1 ?_
        have hc : (∀ x ∈ q, 0 ≤ x ∧ x ≤ 100000) ∧ q.length ≤ 1000 := ⟨fun x hx => by have := f3 x hx; omega, by omega⟩
        have es : slices_SortFunc_int_int.f q = some (sortD q) := by
          unfold slices_SortFunc_int_int.f
          rw [if_pos hc]
          rfl
        simp only [es, Option.bind_some]
        exact Ev.now _
  · refine ⟨[], false, ?_, ?_, by simp, by simp⟩
    · unfold spec_CuspsOf.f
      refine Ev.bind (spec_orbitOf r u) ?_
      simp only [if_neg h, Bool.false_eq_true, if_false]
      exact Ev.now _
    · unfold impl_CuspsOf.f
      refine Ev.bind (impl_orbit r u) ?_
      simp only [if_neg h]
      exact Ev.now _

/-- A number in decimals. -/
def decB (u : Nat) : ByteArray := ⟨(Go.Lib.decDigits u).toArray⟩
def itoaB (n : Int) : ByteArray := ⟨(Go.Lib.itoa n).toArray⟩
theorem nDig_le : ∀ (d u : Nat), u < 10 ^ (d + 1) → Go.Lib.nDigits u ≤ d + 1
  | 0, u, h => by rw [Go.Lib.nDigits_small (by simpa using h)]; omega
  | d + 1, u, h => by
    by_cases hu : u < 10
    · rw [Go.Lib.nDigits_small hu]; omega
    · rw [Go.Lib.nDigits_big hu]
      have := nDig_le d (u / 10) (by rw [Nat.pow_succ] at h; omega)
      omega
theorem decB_size (u : Nat) : (decB u).size = Go.Lib.nDigits u := by
  show (Go.Lib.decDigits u).toArray.size = _
  rw [List.size_toArray, Go.Lib.decDigits_length]
theorem bytes_app (a b : List UInt8) : (⟨a.toArray⟩ : ByteArray) ++ ⟨b.toArray⟩ = ⟨(a ++ b).toArray⟩ := by
  apply ByteArray.ext
  rw [ByteArray.data_append]
  simp
theorem app_assocB (a b c : ByteArray) : a ++ b ++ c = a ++ (b ++ c) := by
  apply ByteArray.ext
  simp [ByteArray.data_append, Array.append_assoc]
theorem one_strB (n : Int) (u : Nat) (h : n = ((u : Nat) : Int)) : strOfNums [n] = ⟨[UInt8.ofNat u].toArray⟩ := by
  subst h
  simp [strOfNums]
theorem strOne_size (n : Int) : (strOfNums [n]).size = 1 := id rfl
theorem decB_small {u : Nat} (h : u < 10) : decB u = strOfNums [(48 + (u : Int))] := by
  rw [one_strB _ (48 + u) (by omega)]
  unfold decB
  rw [Go.Lib.decDigits, dif_pos h]
theorem decB_big {u : Nat} (h : ¬ u < 10) : decB u = decB (u / 10) ++ strOfNums [(48 + (u : Int) % 10)] := by
  rw [one_strB _ (48 + u % 10) (by omega)]
  unfold decB
  rw [bytes_app, Go.Lib.decDigits, dif_neg h]
theorem itoaB_pos {n : Int} (h : 0 ≤ n) : itoaB n = decB n.toNat := by
  unfold itoaB Go.Lib.itoa decB
  rw [if_neg (by omega)]
theorem itoaB_neg {n : Int} (h : n < 0) : itoaB n = (⟨#[45]⟩ : ByteArray) ++ decB n.natAbs := by
  unfold itoaB Go.Lib.itoa decB
  rw [if_pos h, show (⟨#[45]⟩ : ByteArray) = ⟨[45].toArray⟩ from rfl, bytes_app]
  rfl
theorem itoaB_size {n : Int} (h0 : -9223372036854775808 ≤ n) (h1 : n ≤ 9223372036854775807) : (itoaB n).size ≤ 20 := by
  by_cases h : 0 ≤ n
  · rw [itoaB_pos h, decB_size]
    have := nDig_le 18 n.toNat (by omega)
    omega
  · rw [itoaB_neg (by omega), ByteArray.size_append, decB_size]
    have := nDig_le 18 n.natAbs (by omega)
    show 1 + _ ≤ 20
    omega
theorem spec_fmt_l0 : ∀ (u : Nat) (x : Int) (acc : ByteArray), x = u → u < 10 ^ 19 → acc.size + Go.Lib.nDigits u ≤ 40 → Ev (fun k => spec_FormatInt.l0 k x acc) (decB u ++ acc) := by
  intro u
  induction u using Nat.strongRecOn with
  | _ u ih =>
    intro x acc hx hu hs
    subst hx
    refine ev_up ?_
    have h9 : (10 : Int) ^ 19 = 10000000000000000000 := by decide
    by_cases h : u < 10
    · have hw : (wrap64 (48 + (u : Int))) % 256 = 48 + (u : Int) := by rw [pw_wrap (by omega) (by omega)]; omega
      have hn := Go.Lib.nDigits_small h
      simp only [spec_FormatInt.l0, if_neg (show ¬ ((u : Int) > 9) by omega), hw, Option.bind_some, strOne_size, if_pos (show 1 + acc.size ≤ 9223372036854775807 by omega)]
      rw [decB_small h]
      exact Ev.now _
    · have ht : Int.tmod (u : Int) 10 = (u : Int) % 10 := Int.tmod_eq_emod_of_nonneg (by omega)
      have hq : Int.tdiv (u : Int) 10 = (u : Int) / 10 := Int.tdiv_eq_ediv_of_nonneg (by omega)
      have hw : (wrap64 (48 + (u : Int) % 10)) % 256 = 48 + (u : Int) % 10 := by rw [pw_wrap (by omega) (by omega)]; omega
      have hw2 : wrap64 ((u : Int) / 10) = ((u / 10 : Nat) : Int) := by rw [pw_wrap (by omega) (by omega)]; omega
      have hn := Go.Lib.nDigits_big h
      simp only [spec_FormatInt.l0, if_pos (show ((u : Int) > 9) by omega), ht, hq, hw, hw2, Option.bind_some, strOne_size, if_pos (show 1 + acc.size ≤ 9223372036854775807 by omega)]
      rw [decB_big h, app_assocB]
      exact ih (u / 10) (by omega) _ _ rfl (by omega) (by rw [ByteArray.size_append, strOne_size]; omega)
theorem spec_fmtint {n : Int} (h0 : -9223372036854775808 ≤ n) (h1 : n ≤ 9223372036854775807) : Ev (fun k => spec_FormatInt.f k n) (itoaB n) := by
  by_cases hn : 0 ≤ n
  · refine ev_up ?_
    simp only [spec_FormatInt.f, if_neg (show ¬ n < 0 by omega)]
    rw [itoaB_pos hn]
    have := spec_fmt_l0 n.toNat n ⟨#[]⟩ (by omega) (by omega) (by
      have := nDig_le 18 n.toNat (by omega)
      show 0 + _ ≤ 40
      omega)
    rw [show decB n.toNat ++ (⟨#[]⟩ : ByteArray) = decB n.toNat from by apply ByteArray.ext; simp [ByteArray.data_append]] at this
    exact this
  · have key : ∀ (u : Nat) (n : Int), n = -(u : Int) → 1 ≤ u → u ≤ 9223372036854775808 → Ev (fun k => spec_FormatInt.f k n) ((⟨#[45]⟩ : ByteArray) ++ decB u) := by
      intro u
      induction u using Nat.strongRecOn with
      | _ u ih =>
        intro n hx h1 h2
        subst hx
        refine ev_up ?_
        have hq : Int.tdiv (-(u : Int)) 10 = -((u / 10 : Nat) : Int) := by rw [Int.neg_tdiv, Int.tdiv_eq_ediv_of_nonneg (by omega)]; omega
        have ht : Int.tmod (-(u : Int)) 10 = -((u : Int) % 10) := by rw [Int.neg_tmod, Int.tmod_eq_emod_of_nonneg (by omega)]
        have hw2 : wrap64 (-((u / 10 : Nat) : Int)) = -((u / 10 : Nat) : Int) := pw_wrap (by omega) (by omega)
        by_cases h : u < 10
        · have hw : (wrap64 (48 - -(u : Int))) % 256 = 48 + (u : Int) := by rw [pw_wrap (by omega) (by omega)]; omega
          simp only [spec_FormatInt.f, if_pos (show -(u : Int) < 0 by omega), hq, hw2, hw, if_pos (show -((u / 10 : Nat) : Int) = 0 by omega), Option.bind_some, strOne_size, if_pos (show 1 + 1 ≤ 9223372036854775807 by omega)]
          rw [decB_small h]
          exact Ev.now _
        · have hw : (wrap64 (48 - -((u : Int) % 10))) % 256 = 48 + (u : Int) % 10 := by rw [pw_wrap (by omega) (by omega)]; omega
          simp only [spec_FormatInt.f, if_pos (show -(u : Int) < 0 by omega), hq, ht, hw2, hw, if_neg (show ¬ -((u / 10 : Nat) : Int) = 0 by omega)]
          refine Ev.bind (ih (u / 10) (by omega) _ rfl (by omega) (by omega)) ?_
          have hz : ((⟨#[45]⟩ : ByteArray) ++ decB (u / 10)).size ≤ 20 := by
            rw [ByteArray.size_append, decB_size]
            have := nDig_le 18 (u / 10) (by omega)
            show 1 + _ ≤ 20
            omega
          simp only [Option.bind_some, strOne_size, if_pos (show ((⟨#[45]⟩ : ByteArray) ++ decB (u / 10)).size + 1 ≤ 9223372036854775807 by omega)]
          rw [decB_big h, ← app_assocB]
          exact Ev.now _
    rw [itoaB_neg (by omega)]
    exact key n.natAbs n (by omega) (by omega) (by omega)
theorem impl_fmtint {n : Int} (h0 : -9223372036854775808 ≤ n) (h1 : n ≤ 9223372036854775807) : impl_FormatInt.f n = some (itoaB n) := by
  unfold impl_FormatInt.f strconv_Itoa.f
  rw [if_pos ⟨h0, h1⟩]
  rfl
def joinOf (l : List ByteArray) (sep : ByteArray) : ByteArray := ⟨(joinB l sep).toArray⟩
def tot (l : List ByteArray) (sep : ByteArray) : Nat := match l with
  | [] => 0
  | x :: xs => x.size + sep.size + tot xs sep
theorem tot_append (sep : ByteArray) : ∀ (a b : List ByteArray), tot (a ++ b) sep = tot a sep + tot b sep
  | [], b => by simp [tot]
  | x :: a, b => by simp only [List.cons_append, tot, tot_append sep a b]; omega
theorem join_two (sep a : List UInt8) (xs : List (List UInt8)) (h : xs ≠ []) : Go.Lib.join (a :: xs) sep = a ++ sep ++ Go.Lib.join xs sep := by
  cases xs with
  | nil => exact absurd rfl h
  | cons b t => simp [Go.Lib.join, List.intercalate]
theorem join_snoc (sep x : List UInt8) : ∀ (xs : List (List UInt8)), xs ≠ [] → Go.Lib.join (xs ++ [x]) sep = Go.Lib.join xs sep ++ sep ++ x
  | [], h => absurd rfl h
  | [a], _ => by simp [Go.Lib.join, List.intercalate]
  | a :: b :: t, _ => by
    rw [List.cons_append, join_two sep a _ (by simp), join_snoc sep x (b :: t) (by simp), join_two sep a (b :: t) (by simp)]
    simp [List.append_assoc]
theorem bytes_self (x : ByteArray) : (⟨x.data.toList.toArray⟩ : ByteArray) = x := by
  apply ByteArray.ext
  simp
theorem joinOf_nil (sep : ByteArray) : joinOf [] sep = ⟨#[]⟩ := by simp [joinOf, joinB, Go.Lib.join, List.intercalate]
theorem joinOf_one (x sep : ByteArray) : joinOf [x] sep = x := by
  simp [joinOf, joinB, Go.Lib.join, List.intercalate]
theorem joinOf_snoc (l : List ByteArray) (x sep : ByteArray) (h : l ≠ []) : joinOf (l ++ [x]) sep = joinOf l sep ++ sep ++ x := by
  unfold joinOf joinB
  rw [List.map_append, List.map_cons, List.map_nil, join_snoc _ _ _ (by simpa using h), ← bytes_app, ← bytes_app, bytes_self, bytes_self]
theorem joinOf_size (sep : ByteArray) : ∀ (l : List ByteArray), (joinOf l sep).size ≤ tot l sep
  | [] => by rw [joinOf_nil]; exact Nat.zero_le _
  | [x] => by rw [joinOf_one]; simp only [tot]; omega
  | x :: y :: l => by
    have h : joinOf (x :: y :: l) sep = x ++ sep ++ joinOf (y :: l) sep := by
      unfold joinOf joinB
      rw [List.map_cons, join_two _ _ _ (by simp), ← bytes_app, ← bytes_app, bytes_self, bytes_self]
    rw [h, ByteArray.size_append, ByteArray.size_append]
    have := joinOf_size sep (y :: l)
    rw [tot]
    omega
theorem rdOf_mid (d : ByteArray) (pre suf : List ByteArray) (x : ByteArray) : rdOf d (pre ++ x :: suf) (pre.length : Int) = x := by
  simp [rdOf, List.getD]
theorem spec_join_l0 (sep : ByteArray) (l : List ByteArray) (hl : l.length ≤ 1000000000000) (ht : tot l sep ≤ 1000000000000) : ∀ (suf pre : List ByteArray), l = pre ++ suf → Ev (fun k => spec_Join.l0 k sep (joinOf pre sep) l (l.length : Int) (pre.length : Int)) (joinOf l sep)
  | [], pre, e => by
    refine ev_up ?_
    have e2 : l = pre := by simpa using e
    subst e2
    simp only [spec_Join.l0, if_neg (show ¬ ((l.length : Int) < l.length) by omega)]
    exact Ev.now _
  | x :: suf, pre, e => by
    refine ev_up ?_
    have hlen : l.length = pre.length + suf.length + 1 := by rw [e]; simp; omega
    have htt : tot l sep = tot pre sep + (x.size + sep.size + tot suf sep) := by rw [e, tot_append]; simp only [tot]
    have hs := joinOf_size sep pre
    have hx : rdOf ByteArray.empty l (pre.length : Int) = x := by rw [e]; exact rdOf_mid _ _ _ _
    have hw : wrap64 ((pre.length : Int) + 1) = ((pre ++ [x]).length : Int) := by rw [pw_wrap (by omega) (by omega)]; simp
    have ih := spec_join_l0 sep l hl ht suf (pre ++ [x]) (by simp [e])
    simp only [spec_Join.l0, if_pos (show ((pre.length : Int) < l.length) by omega), if_pos (show (0 ≤ (pre.length : Int)) by omega), hx, hw]
    by_cases hp : pre = []
    · subst hp
      rw [List.nil_append, joinOf_one] at ih
      have hz : (joinOf [] sep).size = 0 := by rw [joinOf_nil]; rfl
      refine Ev.congr (f := fun k => _) (fun k => (if_neg (show ¬ (((([] : List ByteArray).length : Nat) : Int) > 0) by simp)).trans (if_pos (by omega))) ?_
      rw [joinOf_nil, show (⟨#[]⟩ : ByteArray) ++ x = x from by apply ByteArray.ext; simp [ByteArray.data_append]]
      exact ih
    · have hpl : 0 < pre.length := List.length_pos_iff.2 hp
      rw [joinOf_snoc _ _ _ hp] at ih
      refine Ev.congr (f := fun k => _) (fun k => ((if_pos (show (pre.length : Int) > 0 by omega)).trans (if_pos (by omega))).trans (if_pos (by rw [ByteArray.size_append]; omega))) ?_
      exact ih
theorem spec_join (sep : ByteArray) (l : List ByteArray) (hl : l.length ≤ 1000000000000) (ht : tot l sep ≤ 1000000000000) : Ev (fun k => spec_Join.f k l sep) (joinOf l sep) := by
  unfold spec_Join.f
  have := spec_join_l0 sep l hl ht l [] rfl
  rw [joinOf_nil] at this
  exact this
theorem impl_join (sep : ByteArray) (l : List ByteArray) (hl : l.length ≤ 1000000000000) (ht : tot l sep ≤ 1000000000000) : impl_Join.f l sep = some (joinOf l sep) := by
  unfold impl_Join.f strings_Join.f
  have hs : (joinB l sep).length ≤ tot l sep := by
    have := joinOf_size sep l
    exact this
  rw [if_pos ⟨by omega, by omega⟩]
  rfl

def Ints64 (l : List Int) : Prop := ∀ x ∈ l, -9223372036854775808 ≤ x ∧ x ≤ 9223372036854775807
theorem tot_ints (sep : ByteArray) (hs : sep.size = 1) : ∀ (l : List Int), Ints64 l → tot (l.map itoaB) sep ≤ 21 * l.length
  | [], _ => by simp [tot]
  | x :: l, h => by
    have h1 := tot_ints sep hs l (fun y hy => h y (List.mem_cons_of_mem _ hy))
    have h2 := h x List.mem_cons_self
    have h3 := itoaB_size h2.1 h2.2
    simp only [List.map_cons, tot, List.length_cons]
    omega
theorem spec_ints_l0 (sep : ByteArray) (hs : sep.size = 1) (l : List Int) (hl : l.length ≤ 1048576) (h : Ints64 l) : ∀ (suf pre : List Int), l = pre ++ suf → Ev (fun k => spec_l17Ints.l0 k sep (pre.map itoaB) l (l.length : Int) (pre.length : Int)) (joinOf (l.map itoaB) sep)
  | [], pre, e => by
    refine ev_up ?_
    have e2 : l = pre := by simpa using e
    subst e2
    simp only [spec_l17Ints.l0, if_neg (show ¬ ((l.length : Int) < l.length) by omega)]
    have := tot_ints sep hs l h
    refine Ev.bind (spec_join sep (l.map itoaB) (by rw [List.length_map]; omega) (by omega)) ?_
    exact Ev.now _
  | x :: suf, pre, e => by
    refine ev_up ?_
    have hlen : l.length = pre.length + suf.length + 1 := by rw [e]; simp; omega
    have hx : rd l (pre.length : Int) = x := by rw [e]; exact rd_mid _ _ _
    have hxm := h x (by rw [e]; simp)
    have hw : wrap64 ((pre.length : Int) + 1) = ((pre ++ [x]).length : Int) := by rw [pw_wrap (by omega) (by omega)]; simp
    have ih := spec_ints_l0 sep hs l hl h suf (pre ++ [x]) (by simp [e])
    simp only [spec_l17Ints.l0, if_pos (show ((pre.length : Int) < l.length) by omega), if_pos (show (0 ≤ (pre.length : Int)) by omega), hx, hw]
    refine Ev.bind (spec_fmtint hxm.1 hxm.2) ?_
    refine Ev.congr (f := fun k => _) (fun k => if_pos (by rw [List.length_map]; omega)) ?_
    rw [List.map_append] at ih
    exact ih
theorem spec_ints (sep : ByteArray) (hs : sep.size = 1) (l : List Int) (hl : l.length ≤ 1048576) (h : Ints64 l) : Ev (fun k => spec_l17Ints.f k l sep) (joinOf (l.map itoaB) sep) := by
  unfold spec_l17Ints.f
  exact spec_ints_l0 sep hs l hl h l [] rfl
theorem impl_ints_l0 (sep : ByteArray) (hs : sep.size = 1) (l : List Int) (hl : l.length ≤ 1048576) (h : Ints64 l) : ∀ (suf pre : List Int), l = pre ++ suf → Ev (fun k => impl_joinInts.l0 k sep (pre.map itoaB) l (l.length : Int) (pre.length : Int)) (joinOf (l.map itoaB) sep)
  | [], pre, e => by
    refine ev_up ?_
    have e2 : l = pre := by simpa using e
    subst e2
    have := tot_ints sep hs l h
    simp only [impl_joinInts.l0, if_neg (show ¬ ((l.length : Int) < l.length) by omega), impl_join sep (l.map itoaB) (by rw [List.length_map]; omega) (by omega), Option.bind_some]
    exact Ev.now _
  | x :: suf, pre, e => by
    refine ev_up ?_
    have hlen : l.length = pre.length + suf.length + 1 := by rw [e]; simp; omega
    have hx : rd l (pre.length : Int) = x := by rw [e]; exact rd_mid _ _ _
    have hxm := h x (by rw [e]; simp)
    have hw : wrap64 ((pre.length : Int) + 1) = ((pre ++ [x]).length : Int) := by rw [pw_wrap (by omega) (by omega)]; simp
    have ih := impl_ints_l0 sep hs l hl h suf (pre ++ [x]) (by simp [e])
    simp only [impl_joinInts.l0, if_pos (show ((pre.length : Int) < l.length) by omega), if_pos (show (0 ≤ (pre.length : Int)) by omega), hx, hw, impl_fmtint hxm.1 hxm.2, Option.bind_some]
    refine Ev.congr (f := fun k => _) (fun k => if_pos (by rw [List.length_map]; omega)) ?_
    rw [List.map_append] at ih
    exact ih
theorem impl_ints (sep : ByteArray) (hs : sep.size = 1) (l : List Int) (hl : l.length ≤ 1048576) (h : Ints64 l) : Ev (fun k => impl_joinInts.f k l sep) (joinOf (l.map itoaB) sep) := by
  unfold impl_joinInts.f
  exact impl_ints_l0 sep hs l hl h l [] rfl
def listT (l : List Int) : ByteArray := if (l.length : Int) = 0 then ⟨#[45]⟩ else joinOf (l.map itoaB) ⟨#[44]⟩
theorem spec_list (l : List Int) (hl : l.length ≤ 1048576) (h : Ints64 l) : Ev (fun k => spec_FormatList.f k l) (listT l) := by
  unfold spec_FormatList.f listT
  by_cases h0 : (l.length : Int) = 0
  · simp only [if_pos h0]
    exact Ev.now _
  · simp only [if_neg h0]
    exact Ev.bind (spec_ints _ rfl l hl h) (Ev.now _)
theorem impl_list (l : List Int) (hl : l.length ≤ 1048576) (h : Ints64 l) : Ev (fun k => impl_FormatList.f k l) (listT l) := by
  unfold impl_FormatList.f listT
  by_cases h0 : (l.length : Int) = 0
  · simp only [if_pos h0]
    exact Ev.now _
  · simp only [if_neg h0]
    exact Ev.bind (impl_ints _ rfl l hl h) (Ev.now _)
theorem listT_size (l : List Int) (h : Ints64 l) : (listT l).size ≤ 21 * l.length + 1 := by
  unfold listT
  split
  · rw [show (⟨#[45]⟩ : ByteArray).size = 1 from rfl]
    omega
  · have := joinOf_size ⟨#[44]⟩ (l.map itoaB)
    have := tot_ints ⟨#[44]⟩ rfl l h
    omega

theorem eqIntS_l0 (l : List Int) (hl : l.length ≤ 2147483648) : ∀ (suf pre : List Int), l = pre ++ suf → Ev (fun k => laws_eqIntS.l0 k l l (pre.length : Int)) true := by
  intro suf
  induction suf with
  | nil =>
    intro pre h
    subst h
    refine ev_up ?_
    simp only [laws_eqIntS.l0, if_neg (nlt_end pre)]
    exact Ev.now _
  | cons c suf ih =>
    intro pre h
    have := ih (pre ++ [c]) (by simp [h])
    subst h
    refine ev_up ?_
    simp only [laws_eqIntS.l0, if_pos (lt_mid pre suf c), if_pos (Int.natCast_nonneg pre.length), if_true, wrap_snoc (x := c) (s := suf) (p := pre) (by simp at hl ⊢; omega)]
    exact this
theorem eqIntS_ev (l : List Int) (hl : l.length ≤ 2147483648) : Ev (fun k => laws_eqIntS.f k l l) true := by
  unfold laws_eqIntS.f
  simp only [if_true]
  exact eqIntS_l0 l hl l [] rfl

theorem toIntS_l0 (l : List Int) (hl : l.length ≤ 1048576) : ∀ (suf pre : List Int), l = pre ++ suf → Ev (fun k => laws_toIntS.l0 k l (pre ++ List.replicate suf.length 0) (pre.length : Int)) l := by
  intro suf
  induction suf with
  | nil =>
    intro pre h
    subst h
    refine ev_up ?_
    simp only [laws_toIntS.l0, if_neg (nlt_end pre)]
    simpa using Ev.now pre
  | cons c suf ih =>
    intro pre h
    have := ih (pre ++ [c]) (by simp [h])
    subst h
    refine ev_up ?_
    simp only [laws_toIntS.l0, if_pos (lt_mid pre suf c), if_pos (Int.natCast_nonneg pre.length), rd_mid, if_pos (show ((pre.length : Nat) : Int) < ((pre ++ List.replicate (c :: suf).length (0 : Int)).length : Int) by simp; omega), wrap_snoc (x := c) (s := suf) (p := pre) (by simp at hl ⊢; omega)]
    rw [show (pre ++ List.replicate (c :: suf).length (0 : Int)).set ((pre.length : Nat) : Int).toNat c = pre ++ [c] ++ List.replicate suf.length 0 by simp [List.replicate_succ]]
    exact this
theorem toIntS_ev (l : List Int) (hl : l.length ≤ 1048576) : Ev (fun k => laws_toIntS.f k l) l := by
  have := toIntS_l0 l hl l [] rfl
  unfold laws_toIntS.f
  simp only [if_pos (Int.natCast_nonneg l.length), if_pos (show ((l.length : Nat) : Int).toNat ≤ 35184372088832 by omega)]
  simpa using this

theorem szIntS_eq (l : List Int) (m : Int) (hl : l.length ≤ 9223372036854775807) (h0 : 0 ≤ m) (h1 : m ≤ 1048576) : laws_szIntS.f l m = some (if (l.length : Int) ≤ m then m - (l.length : Int) else -1) := by
  unfold laws_szIntS.f
  have e : wrap64 (m - (l.length : Int)) = m - (l.length : Int) := by unfold wrap64; omega
  rw [e]
  by_cases h : (l.length : Int) ≤ m
  · rw [if_neg (by omega), if_pos h]
  · rw [if_pos (by omega), if_neg h]

theorem szSurface_eq (a b : List Int) (ha : a.length ≤ 9223372036854775807) (hb : b.length ≤ 9223372036854775807) : laws_szSurface.f a b 1048576 = some (if a.length + b.length ≤ 1048576 then 1048576 - ((a.length + b.length : Nat) : Int) else -1) := by
  unfold laws_szSurface.f
  simp only [szIntS_eq a 1048576 ha (by omega) (by omega), Option.bind_some]
  by_cases h : (a.length : Int) ≤ 1048576
  · simp only [if_pos h, if_neg (show ¬ (1048576 - (a.length : Int) < 0) by omega), szIntS_eq b _ hb (show 0 ≤ 1048576 - (a.length : Int) by omega) (by omega), Option.bind_some]
    by_cases h2 : (b.length : Int) ≤ 1048576 - (a.length : Int)
    · simp only [if_pos h2, if_neg (show ¬ (1048576 - (a.length : Int) - (b.length : Int) < 0) by omega), if_pos (show a.length + b.length ≤ 1048576 by omega)]
      congr 1
      omega
    · simp only [if_neg h2, if_neg (show ¬ a.length + b.length ≤ 1048576 by omega)]
      rfl
  · simp only [if_neg h, if_neg (show ¬ a.length + b.length ≤ 1048576 by omega)]
    rfl
theorem toSurface_ev (a b : List Int) (h : a.length + b.length ≤ 1048576) : Ev (fun k => laws_toSurface.f k a b) (a, b) := by
  unfold laws_toSurface.f
  refine Ev.bind (toIntS_ev a (by omega)) ?_
  refine Ev.bind (toIntS_ev b (by omega)) ?_
  exact Ev.now _
theorem eqSurf_ev (a b : List Int) (h : a.length + b.length ≤ 1048576) : Ev (fun k => laws_eqSurface.f k a b a b) true := by
  unfold laws_eqSurface.f
  refine Ev.bind (eqIntS_ev a (by omega)) ?_
  simp only [if_true]
  refine Ev.bind (eqIntS_ev b (by omega)) ?_
  simp only [if_true]
  exact Ev.now _

theorem ints64_small {l : List Int} (h : ∀ x ∈ l, 0 ≤ x ∧ x ≤ 120) : Ints64 l := fun x hx => by
  have := h x hx
  omega
theorem index_bd (r u : List Int) : -1 ≤ indexV r u ∧ indexV r u ≤ 120 := by
  unfold indexV
  split
  · rename_i h
    cases e : orbOf r u with
    | none => simp
    | some o =>
      have := (orbOf_F (orb0_I h) e).few
      simp only
      omega
  · omega
theorem both_orbit (r u : List Int) : ∃ t, Ev (fun k => spec_OrbitLine.f k r u) t ∧ Ev (fun k => impl_OrbitLine.f k r u) t := by
  obtain ⟨q, b, e1, e2, l1, l2⟩ := both_cusps r u
  have hi := ints64_small l2
  have ib := index_bd r u
  have s1 := itoaB_size (n := indexV r u) (by omega) (by omega)
  have s2 := listT_size q hi
  have z6 : (⟨#[105, 110, 100, 101, 120, 32]⟩ : ByteArray).size = 6 := id rfl
  have z7 : (⟨#[32, 99, 117, 115, 112, 115, 32]⟩ : ByteArray).size = 7 := id rfl
  by_cases h : transB r u = true
  · cases b with
    | true =>
      refine ⟨(((⟨#[105, 110, 100, 101, 120, 32]⟩ : ByteArray) ++ itoaB (indexV r u)) ++ (⟨#[32, 99, 117, 115, 112, 115, 32]⟩ : ByteArray)) ++ listT q, ?_, ?_⟩
      · unfold spec_OrbitLine.f
        refine Ev.bind (spec_surfOk r u) ?_
        simp only [if_pos h]
        refine Ev.bind e1 ?_
        simp only [if_true]
        refine Ev.bind (spec_index r u) ?_
        refine Ev.bind (spec_fmtint (by omega) (by omega)) ?_
        refine Ev.congr (f := fun k => _) (fun k => if_pos (by omega)) ?_
        refine Ev.congr (f := fun k => _) (fun k => if_pos (by simp only [ByteArray.size_append, z6]; omega)) ?_
        refine Ev.bind (spec_list q (by omega) hi) ?_
        exact Ev.congr (fun k => if_pos (by simp only [ByteArray.size_append, z6, z7]; omega)) (Ev.now _)
      · unfold impl_OrbitLine.f
        refine Ev.bind (impl_surfOk r u) ?_
        simp only [if_pos h]
        refine Ev.bind e2 ?_
        simp only [if_true]
        refine Ev.bind (impl_index r u) ?_
        simp only [impl_fmtint (n := indexV r u) (by omega) (by omega), Option.bind_some]
        refine Ev.congr (f := fun k => _) (fun k => if_pos (by omega)) ?_
        refine Ev.congr (f := fun k => _) (fun k => if_pos (by simp only [ByteArray.size_append, z6]; omega)) ?_
        refine Ev.bind (impl_list q (by omega) hi) ?_
        exact Ev.congr (fun k => if_pos (by simp only [ByteArray.size_append, z6, z7]; omega)) (Ev.now _)
    | false =>
      refine ⟨⟨#[116, 111, 111, 32, 109, 97, 110, 121]⟩, ?_, ?_⟩
      · unfold spec_OrbitLine.f
        refine Ev.bind (spec_surfOk r u) ?_
        simp only [if_pos h]
        refine Ev.bind e1 ?_
        simp only [Bool.false_eq_true, if_false]
        exact Ev.now _
      · unfold impl_OrbitLine.f
        refine Ev.bind (impl_surfOk r u) ?_
        simp only [if_pos h]
        refine Ev.bind e2 ?_
        simp only [Bool.false_eq_true, if_false]
        exact Ev.now _
  · refine ⟨⟨#[]⟩, ?_, ?_⟩
    · unfold spec_OrbitLine.f
      refine Ev.bind (spec_surfOk r u) ?_
      simp only [if_neg h]
      exact Ev.now _
    · unfold impl_OrbitLine.f
      refine Ev.bind (impl_surfOk r u) ?_
      simp only [if_neg h]
      exact Ev.now _
theorem FnExactOrbitLine : laws_FnExactOrbitLine.Pure := by
  intro a b ha _ hb _
  apply Ev.rounds
  unfold laws_FnExactOrbitLine.f
  simp only [szSurface_eq a b ha hb, Option.bind_some]
  by_cases h : a.length + b.length ≤ 1048576
  · obtain ⟨t, h1, h2⟩ := both_orbit a b
    simp only [if_pos h]
    refine Ev.congr (f := fun k => _) (fun k => if_neg (by omega)) ?_
    refine Ev.bind (toSurface_ev a b h) ?_
    refine Ev.bind h1 ?_
    refine Ev.bind (toSurface_ev a b h) ?_
    refine Ev.bind h2 ?_
    simp only [if_true]
    refine Ev.bind (toSurface_ev a b h) ?_
    refine Ev.bind (eqSurf_ev a b h) ?_
    simp only [if_true]
    exact Ev.now _
  · simp only [if_neg h]
    exact Ev.congr (fun k => if_pos (by omega)) (Ev.now _)

end Go.Proofs.YtpieaniigkgmoaaGreatDoor.Pure
