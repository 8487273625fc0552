/- An exchange moves each place once, and each step of induction keeps the number of loops: for all codes. -/
import Derived.Test.YtbolkipmehmncaaDoorSayFnExchanges
namespace Go.Proofs.YtbolkipmehmncaaDoor.Pure
open Go.RowKit Go.Proofs.YtbolkipmehmncaaDoor.S Go.Proofs.YtbolkipmehmncaaDoorW.PrintWords Go.Proofs.YtbolkipmehmncaaDoorW.PrintLast
set_option linter.unusedVariables false
set_option linter.unusedSimpArgs false

theorem ev_up {α : Type} {g : Nat → Option α} {r : α} (h : Ev (fun k => g (k + 1)) r) : Ev g r := Ev.step (fun _ => rfl) h
theorem pw_wrap {a : Int} (h0 : -9223372036854775808 ≤ a) (h1 : a ≤ 9223372036854775807) : wrap64 a = a := by
  unfold wrap64
  omega

theorem and255 (x : Int) : 0 ≤ Go.bits .and .i64 x 255 ∧ Go.bits .and .i64 x 255 ≤ 255 := by
  have h : (BitVec.ofInt 64 x &&& BitVec.ofInt 64 255).toNat ≤ 255 := by
    rw [BitVec.toNat_and]
    exact Nat.le_trans Nat.and_le_right (by decide)
  show 0 ≤ IntKind.i64.wrap ((BitVec.ofInt 64 x &&& BitVec.ofInt 64 255).toNat : Int) ∧ IntKind.i64.wrap ((BitVec.ofInt 64 x &&& BitVec.ofInt 64 255).toNat : Int) ≤ 255
  generalize (BitVec.ofInt 64 x &&& BitVec.ofInt 64 255).toNat = n at *
  rw [IntKind.wrap_i64]
  omega
theorem byte_some (l : List Int) (hl : l.length ≤ 4611686018427387904) (i h : Int) (hi : 0 ≤ i) : ∃ v i' h', spec_l01Byte.f l i h = some (v, i', h') ∧ 0 ≤ v ∧ v ≤ 255 ∧ 0 ≤ i' := by
  unfold spec_l01Byte.f
  by_cases h1 : i < (l.length : Int)
  · simp only [if_pos h1, if_pos hi]
    exact ⟨_, _, _, rfl, (and255 _).1, (and255 _).2, by rw [pw_wrap (by omega) (by omega)]; omega⟩
  · simp only [if_neg h1]
    exact ⟨_, _, _, rfl, (and255 _).1, (and255 _).2, hi⟩
theorem below_some (l : List Int) (hl : l.length ≤ 4611686018427387904) (i h : Int) (hi : 0 ≤ i) (n : Int) (h1 : 1 ≤ n) (h2 : n ≤ 256) : ∃ v i' h', spec_l01Below.f l i h n = some (v, i', h') ∧ 0 ≤ v ∧ v < n ∧ 0 ≤ i' := by
  obtain ⟨v, i', h', e, v0, v1, hi'⟩ := byte_some l hl i h hi
  unfold spec_l01Below.f
  simp only [if_neg (show ¬ n ≤ 0 by omega), if_pos h2, e, Option.bind_some, if_neg (show ¬ n = 0 by omega)]
  refine ⟨_, _, _, rfl, ?_, ?_, hi'⟩
  · exact Int.tmod_nonneg _ v0
  · rw [Int.tmod_eq_emod_of_nonneg v0]
    exact Int.emod_lt_of_pos _ (by omega)
theorem new_l0 (l : List Int) (hl : l.length ≤ 4611686018427387904) : ∀ (d : Nat) (x i : Int), 0 ≤ i → i + d = 4000 → ∃ h, Ev (fun k => spec_l01New.l0 k l x i) (l, 0, h)
  | 0, x, i, h0, h1 => by
    by_cases h : i < (l.length : Int)
    · refine ⟨x, ev_up ?_⟩
      simp only [spec_l01New.l0, if_pos h, if_neg (show ¬ i < 4000 by omega)]
      exact Ev.now _
    · refine ⟨x, ev_up ?_⟩
      simp only [spec_l01New.l0, if_neg h]
      exact Ev.now _
  | d + 1, x, i, h0, h1 => by
    by_cases h : i < (l.length : Int)
    · obtain ⟨r, hr⟩ := new_l0 l hl d (Go.bits .and .i64 (wrap64 ((wrap64 ((wrap64 (x * 109)) + (wrap64 (rd l i)))) + 7)) 1073741823) (i + 1) (by omega) (by omega)
      refine ⟨r, ev_up ?_⟩
      simp only [spec_l01New.l0, if_pos h, if_pos (show i < 4000 by omega), if_pos h0, pw_wrap (a := i + 1) (by omega) (by omega)]
      exact hr
    · refine ⟨x, ev_up ?_⟩
      simp only [spec_l01New.l0, if_neg h]
      exact Ev.now _
theorem new_some (l : List Int) (hl : l.length ≤ 4611686018427387904) : ∃ h, Ev (fun k => spec_l01New.f k l) (l, 0, h) := by
  unfold spec_l01New.f
  exact new_l0 l hl 4000 _ 0 (by omega) (by omega)
def permSGo (n : Int) : List Int → List Int → Bool
  | _, [] => true
  | pre, x :: xs => if 0 ≤ x ∧ x ≤ n - 1 then (if x ∈ pre then false else permSGo n (pre ++ [x]) xs) else false
def permSB (p : List Int) : Bool := if p.length ≤ 24 then permSGo p.length [] p else false

/-- A permutation of at most 24 elements. -/
def isPerm (p : List Int) : Prop := p.length ≤ 24 ∧ (∀ x ∈ p, 0 ≤ x ∧ x < (p.length : Int)) ∧ p.Nodup
theorem perm_go (n : Nat) (hn : n ≤ 24) : ∀ (p pre : List Int) (seen : List Bool), seen.length = 24 → (∀ x : Int, 0 ≤ x → x < n → (seen.getD x.toNat false = true ↔ x ∈ pre)) →
    permGo n p seen = permSGo n pre p := by
  intro p
  induction p with
  | nil => intro pre seen _ _; rfl
  | cons x p ih =>
    intro pre seen hl hs
    simp only [permGo, permSGo]
    by_cases h0 : x < 0
    · rw [if_pos h0, if_neg (by omega)]
    · rw [if_neg h0]
      by_cases h1 : (n : Int) ≤ x
      · rw [if_pos h1, if_neg (by omega)]
      · rw [if_neg h1, if_pos (show 0 ≤ x ∧ x ≤ (n : Int) - 1 by omega)]
        have hx := hs x (by omega) (by omega)
        by_cases h2 : x ∈ pre
        · rw [if_pos (hx.2 h2), if_pos h2]
        · rw [if_neg (fun h => h2 (hx.1 h)), if_neg h2]
          refine ih _ _ (by simpa using hl) (fun y hy0 hy1 => ?_)
          by_cases hxy : x = y
          · subst hxy
            have : x.toNat < seen.length := by omega
            simp [List.getD, this]
          · have hne : x.toNat ≠ y.toNat := by omega
            have := hs y hy0 hy1
            simp only [List.getD, List.getElem?_set_ne hne]
            rw [List.getD] at this
            rw [this]
            simp [Ne.symm hxy]
theorem perm_same (p : List Int) : permB p = permSB p := by
  unfold permB permSB
  by_cases h : p.length ≤ 24
  · rw [if_pos h, if_pos h]
    refine perm_go p.length h p [] no24 rfl (fun x h0 h1 => ?_)
    have : no24.getD x.toNat false = false := by
      unfold no24
      simp only [List.getD, List.getElem?_replicate]
      split <;> rfl
    rw [this]
    simp
  · rw [if_neg h, if_neg h]
theorem permS_iff (n : Nat) : ∀ (p pre : List Int), permSGo n pre p = true ↔ ((∀ x ∈ p, 0 ≤ x ∧ x < (n : Int)) ∧ (∀ x ∈ p, x ∉ pre) ∧ p.Nodup)
  | [], pre => by simp [permSGo]
  | x :: p, pre => by
    simp only [permSGo]
    by_cases h : 0 ≤ x ∧ x ≤ (n : Int) - 1
    · rw [if_pos h]
      by_cases h2 : x ∈ pre
      · rw [if_pos h2]
        simp [h2]
      · rw [if_neg h2, permS_iff n p (pre ++ [x])]
        simp only [List.mem_cons, forall_eq_or_imp, List.nodup_cons]
        constructor
        · rintro ⟨h3, h4, h5⟩
          exact ⟨⟨by omega, h3⟩, ⟨h2, fun y hy hp => h4 y hy (List.mem_append.2 (.inl hp))⟩, fun hx => h4 x hx (List.mem_append.2 (.inr (List.mem_singleton.2 rfl))), h5⟩
        · rintro ⟨h3, h4, h5, h6⟩
          refine ⟨h3.2, fun y hy hp => ?_, h6⟩
          rcases List.mem_append.1 hp with hp | hp
          · exact h4.2 y hy hp
          · rw [List.mem_singleton.1 hp] at hy
            exact h5 hy
    · rw [if_neg h]
      simp only [Bool.false_eq_true, List.mem_cons, forall_eq_or_imp, false_iff]
      intro h2
      omega
theorem permB_iff (p : List Int) : permB p = true ↔ isPerm p := by
  rw [perm_same]
  unfold permSB isPerm
  by_cases h : p.length ≤ 24
  · rw [if_pos h, permS_iff]
    simp [h]
  · rw [if_neg h]
    simp [h]

/-! Small words on lists, read at a place. -/
theorem wrap_snoc {α : Type} {p s : List α} {x : α} (h : (p ++ x :: s).length ≤ 4611686018427387904) : wrap64 ((p.length : Int) + 1) = ((p ++ [x]).length : Int) := by
  simp at h ⊢
  unfold wrap64
  omega
theorem lt_mid {α : Type} (p s : List α) (x : α) : ((p.length : Nat) : Int) < ((p ++ x :: s).length : Int) := by simp; omega
theorem rd_mid (p s : List Int) (x : Int) : rd (p ++ x :: s) (p.length : Int) = x := by simp [rd, List.getD]
theorem nil_or_snoc {α : Type} (l : List α) : l = [] ∨ ∃ p x, l = p ++ [x] := by
  rcases List.eq_nil_or_concat l with h | ⟨p, x, h⟩
  · exact .inl h
  · exact .inr ⟨p, x, by rw [h]; simp⟩

def sumL : List Int → Int
  | [] => 0
  | x :: xs => x + sumL xs
/-- Lengths are from 1 to 60. -/
def lensB : List Int → Bool
  | [] => true
  | x :: xs => decide (1 ≤ x ∧ x ≤ 60) && lensB xs
theorem lensB_iff : ∀ l : List Int, lensB l = true ↔ ∀ x ∈ l, 1 ≤ x ∧ x ≤ 60
  | [] => by simp [lensB]
  | x :: xs => by simp [lensB, lensB_iff xs]
theorem sumL_bd : ∀ l : List Int, (∀ x ∈ l, 1 ≤ x ∧ x ≤ 60) → (l.length : Int) ≤ sumL l ∧ sumL l ≤ 60 * l.length
  | [], _ => by simp [sumL]
  | x :: xs, h => by
    have h1 := h x (by simp)
    have h2 := sumL_bd xs (fun y hy => h y (by simp [hy]))
    simp only [sumL, List.length_cons]
    omega
def exB (a b c : List Int) : Bool := decide (1 ≤ a.length ∧ a.length ≤ 6) && decide (b.length = a.length) && decide (c.length = a.length) && lensB a && decide (sumL a ≤ 60) && permB b && permB c
theorem impl_ex_l0 (a b c : List Int) (ha : a.length ≤ 6) : ∀ (suf pre : List Int) (s : Int), a = pre ++ suf → 0 ≤ s → s + 60 * suf.length ≤ 360 →
    Ev (fun k => impl_ExchangeOk.l0 k (a.length : Int) s a (a.length : Int) (pre.length : Int) a b c) (lensB suf && decide (s + sumL suf ≤ 60) && permB b && permB c && decide (b.length = a.length) && decide (c.length = a.length)) := by
  intro suf
  induction suf with
  | nil =>
    intro pre s h h0 h1
    have hlen : ¬ ((pre.length : Nat) : Int) < (a.length : Int) := by rw [h]; simp
    have hcl : ((c.length : Int) == (a.length : Int)) = decide (c.length = a.length) := by
      by_cases hc : c.length = a.length
      · simp [hc]
      · simp [hc]; omega
    refine ev_up ?_
    simp only [impl_ExchangeOk.l0, if_neg hlen, lensB, sumL, Int.add_zero, Bool.true_and, impl_PermOk.f, Option.bind_some, hcl]
    by_cases h2 : s ≤ 60
    · simp only [if_pos h2, decide_eq_true h2, Bool.true_and]
      cases permB b
      · simpa using Ev.now false
      · cases permB c
        · simpa using Ev.now false
        · by_cases hb : b.length = a.length
          · simpa [hb] using Ev.now (decide (c.length = a.length))
          · simpa [hb, show ¬ (b.length : Int) = (a.length : Int) by omega] using Ev.now false
    · simp only [if_neg h2, decide_eq_false h2, Bool.false_and]
      exact Ev.now _
  | cons x suf ih =>
    intro pre s h h0 h1
    have hlt : ((pre.length : Nat) : Int) < (a.length : Int) := by rw [h]; exact lt_mid pre suf x
    have hrd : rd a (pre.length : Int) = x := by rw [h]; exact rd_mid pre suf x
    have hw : wrap64 ((pre.length : Int) + 1) = ((pre ++ [x]).length : Int) := wrap_snoc (s := suf) (by rw [← h]; omega)
    simp at h1
    refine ev_up ?_
    simp only [impl_ExchangeOk.l0, if_pos hlt, if_pos (Int.natCast_nonneg pre.length), hrd, hw]
    by_cases h2 : x < 1
    · simp only [if_pos h2, lensB, decide_eq_false (show ¬ (1 ≤ x ∧ x ≤ 60) by omega), Bool.false_and]
      exact Ev.now _
    · by_cases h3 : x > 60
      · simp only [if_neg h2, if_pos h3, lensB, decide_eq_false (show ¬ (1 ≤ x ∧ x ≤ 60) by omega), Bool.false_and]
        exact Ev.now _
      · simp only [if_neg h2, if_neg h3, lensB, decide_eq_true (show 1 ≤ x ∧ x ≤ 60 by omega), pw_wrap (a := s + x) (by omega) (by omega), sumL, Bool.true_and]
        simp only [← Int.add_assoc]
        exact ih (pre ++ [x]) (s + x) (by simp [h]) (by omega) (by omega)
theorem and_swap6 (p a b c d e f : Bool) : (p && a && b && c && d && e && f) = (p && (c && d && e && f && a && b)) := by
  cases p <;> cases a <;> cases b <;> cases c <;> cases d <;> cases e <;> cases f <;> rfl
theorem impl_exOk (a b c : List Int) : Ev (fun k => impl_ExchangeOk.f k a b c) (exB a b c) := by
  unfold impl_ExchangeOk.f exB
  rw [and_swap6]
  by_cases h1 : (a.length : Int) < 1
  · simp only [if_pos h1, decide_eq_false (show ¬ (1 ≤ a.length ∧ a.length ≤ 6) by omega), Bool.false_and]
    refine ev_up ?_
    simp only [impl_ExchangeOk.j0, if_true]
    exact Ev.now _
  · simp only [if_neg h1]
    refine ev_up ?_
    by_cases h2 : a.length ≤ 6
    · simp only [impl_ExchangeOk.j0, decide_eq_false (show ¬ (a.length : Int) > 6 by omega), Bool.false_eq_true, if_false, decide_eq_true (show 1 ≤ a.length ∧ a.length ≤ 6 by omega), Bool.true_and]
      have := impl_ex_l0 a b c h2 a [] 0 rfl (by omega) (by omega)
      simpa using this
    · simp only [impl_ExchangeOk.j0, decide_eq_true (show (a.length : Int) > 6 by omega), if_true, decide_eq_false (show ¬ (1 ≤ a.length ∧ a.length ≤ 6) by omega), Bool.false_and]
      exact Ev.now _
/-- What a valid exchange is. -/
theorem exB_side {a b c : List Int} (h : exB a b c = true) : (1 ≤ a.length ∧ a.length ≤ 6) ∧ b.length = a.length ∧ c.length = a.length ∧ (∀ x ∈ a, 1 ≤ x ∧ x ≤ 60) ∧ sumL a ≤ 60 ∧ isPerm b ∧ isPerm c := by
  simp only [exB, Bool.and_eq_true, decide_eq_true_eq, lensB_iff, permB_iff] at h
  obtain ⟨⟨⟨⟨⟨⟨h1, h2⟩, h3⟩, h4⟩, h5⟩, h6⟩, h7⟩ := h
  exact ⟨h1, h2, h3, h4, h5, h6, h7⟩

/-- The lengths and the numbers of parts are as those of a valid exchange. -/
structure ExOk (a b c : List Int) : Prop where
  n1 : 1 ≤ a.length ∧ a.length ≤ 6
  lb : b.length = a.length
  lc : c.length = a.length
  la : ∀ x ∈ a, 1 ≤ x ∧ x ≤ 60
  su : sumL a ≤ 60
  pb : isPerm b
  pc : isPerm c
theorem exOk_of {a b c : List Int} (h : exB a b c = true) : ExOk a b c := by
  obtain ⟨h1, h2, h3, h4, h5, h6, h7⟩ := exB_side h
  exact ⟨h1, h2, h3, h4, h5, h6, h7⟩
theorem rd_len {a : List Int} (h : ∀ x ∈ a, 1 ≤ x ∧ x ≤ 60) {k : Int} (h0 : 0 ≤ k) (h1 : k < a.length) : 1 ≤ rd a k ∧ rd a k ≤ 60 := by
  have hk : k.toNat < a.length := by omega
  have e : rd a k = a[k.toNat] := by simp [rd, List.getD, hk]
  rw [e]
  exact h _ (List.getElem_mem hk)

theorem swap_perm (l1 l2 : List Int) (z w : Int) : (l1 ++ w :: (l2 ++ [z])).Perm ((l1 ++ z :: l2) ++ [w]) := by
  rw [List.append_assoc, List.cons_append]
  refine List.Perm.append_left l1 ?_
  refine (List.Perm.cons w (List.perm_append_singleton z l2)).trans ?_
  refine (List.Perm.swap z w l2).trans ?_
  exact List.Perm.cons z (List.perm_append_singleton w l2).symm
/-- Each number below n once. -/
def Drawn (p : List Int) (n : Int) : Prop := (p.length : Int) = n ∧ (∀ x ∈ p, 0 ≤ x ∧ x < n) ∧ p.Nodup
theorem drawn_snoc {p : List Int} {n : Int} (h : Drawn p n) : Drawn (p ++ [n]) (n + 1) := by
  refine ⟨by simp [h.1], fun x hx => ?_, ?_⟩
  · rcases List.mem_append.1 hx with hx | hx
    · have := h.2.1 x hx
      omega
    · have := h.1
      simp at hx
      omega
  · rw [List.nodup_append]
    refine ⟨h.2.2, by simp, fun a ha b hb => ?_⟩
    have := h.2.1 a ha
    simp at hb
    omega
theorem drawn_move {p q : List Int} {n : Int} (h : Drawn p n) (hp : q.Perm p) : Drawn q n :=
  ⟨by rw [hp.length_eq]; exact h.1, fun x hx => h.2.1 x (hp.mem_iff.1 hx), hp.nodup_iff.2 h.2.2⟩
theorem set_mid (l1 l2 : List Int) (z u : Int) : (l1 ++ z :: l2).set l1.length u = l1 ++ u :: l2 := by simp
theorem drawn_swap {p : List Int} {n v : Int} (h : Drawn p n) (v0 : 0 ≤ v) (v1 : v < n + 1) : Drawn (((p ++ [n]).set n.toNat (rd (p ++ [n]) v)).set v.toNat n) (n + 1) := by
  have hs := drawn_snoc h
  have hl := h.1
  have hn : n.toNat = p.length := by omega
  by_cases hv : v = n
  · subst hv
    have e : rd (p ++ [v]) v = v := by
      have := rd_mid p [] v
      rw [hl] at this
      exact this
    rw [e, hn, set_mid, set_mid]
    exact hs
  · have hlt : v.toNat < p.length := by omega
    obtain ⟨l1, z, l2, e, el⟩ : ∃ l1 z l2, p = l1 ++ z :: l2 ∧ l1.length = v.toNat := ⟨p.take v.toNat, p[v.toNat], p.drop (v.toNat + 1), by rw [← List.drop_eq_getElem_cons hlt, List.take_append_drop], by simp; omega⟩
    have er : rd (p ++ [n]) v = z := by
      rw [e, List.append_assoc, show v = (l1.length : Int) from by omega]
      exact rd_mid l1 (l2 ++ [n]) z
    rw [er, hn, set_mid, e, List.append_assoc, List.cons_append, ← el, set_mid]
    refine drawn_move hs ?_
    rw [e]
    exact swap_perm l1 l2 z n
theorem perm_draw_l0 (l : List Int) (hl : l.length ≤ 4611686018427387904) (n : Int) (hn : n ≤ 100) : ∀ (d : Nat) (i : Int) (p : List Int) (s1 s2 : Int), 0 ≤ i → i + d = n → Drawn p i → 0 ≤ s1 → ∃ q t1 t2, Ev (fun k => spec_l02Draw.l0 k n p i l s1 s2) (q, t1, t2) ∧ Drawn q n ∧ 0 ≤ t1
  | 0, i, p, s1, s2, i0, hd, hp, hs => by
    refine ⟨p, s1, s2, ev_up ?_, by rw [show n = i from by omega]; exact hp, hs⟩
    simp only [spec_l02Draw.l0, if_neg (show ¬ i < n by omega)]
    exact Ev.now _
  | d + 1, i, p, s1, s2, i0, hd, hp, hs => by
    obtain ⟨v, t1, t2, e, v0, v1, ht⟩ := below_some l hl s1 s2 hs (i + 1) (by omega) (by omega)
    obtain ⟨q, u1, u2, hr, hq, hu⟩ := perm_draw_l0 l hl n hn d (i + 1) _ t1 t2 (by omega) (by omega) (drawn_swap hp v0 v1) ht
    have hlen := hp.1
    have hlen2 : ((p ++ [i]).length : Int) = i + 1 := by simp; omega
    refine ⟨q, u1, u2, ev_up ?_, hq, hu⟩
    simp only [spec_l02Draw.l0, if_pos (show i < n by omega), pw_wrap (a := i + 1) (by omega) (by omega), e, Option.bind_some, if_pos (show p.length < 17592186044416 by omega), if_pos v0, hlen2, if_pos v1, if_pos i0, if_pos (show i < i + 1 by omega)]
    exact hr
theorem perm_draw (l : List Int) (hl : l.length ≤ 4611686018427387904) (n : Int) (h0 : 0 ≤ n) (hn : n ≤ 100) (s1 s2 : Int) (hs : 0 ≤ s1) : ∃ q t1 t2, Ev (fun k => spec_l02Draw.f k l s1 s2 n) (q, t1, t2) ∧ Drawn q n ∧ 0 ≤ t1 := by
  unfold spec_l02Draw.f
  exact perm_draw_l0 l hl n hn n.toNat 0 [] s1 s2 (by omega) (by omega) ⟨rfl, fun x hx => by simp at hx, List.nodup_nil⟩ hs
theorem lens_draw_l0 (l : List Int) (hl : l.length ≤ 4611686018427387904) (n : Int) (hn : n ≤ 100) (b c : List Int) : ∀ (d : Nat) (i : Int) (p : List Int) (s1 s2 : Int), 0 ≤ i → i + d = n → (p.length : Int) = i → (∀ x ∈ p, 1 ≤ x ∧ x ≤ 9) → 0 ≤ s1 → ∃ q t1 t2, Ev (fun k => spec_l16Draw.l0 k n i l s1 s2 p b c) (q, b, c, t1, t2) ∧ (q.length : Int) = n ∧ ∀ x ∈ q, 1 ≤ x ∧ x ≤ 9
  | 0, i, p, s1, s2, i0, hd, hp, hx, hs => by
    refine ⟨p, s1, s2, ev_up ?_, by omega, hx⟩
    simp only [spec_l16Draw.l0, if_neg (show ¬ i < n by omega)]
    exact Ev.now _
  | d + 1, i, p, s1, s2, i0, hd, hp, hx, hs => by
    obtain ⟨v, t1, t2, e, v0, v1, ht⟩ := below_some l hl s1 s2 hs 9 (by omega) (by omega)
    obtain ⟨q, u1, u2, hr, hq, hu⟩ := lens_draw_l0 l hl n hn b c d (i + 1) (p ++ [1 + v]) t1 t2 (by omega) (by omega) (by simp; omega) (fun x hx2 => by
      rcases List.mem_append.1 hx2 with hx2 | hx2
      · exact hx x hx2
      · simp at hx2; omega) ht
    refine ⟨q, u1, u2, ev_up ?_, hq, hu⟩
    simp only [spec_l16Draw.l0, if_pos (show i < n by omega), pw_wrap (a := i + 1) (by omega) (by omega), pw_wrap (a := 1 + v) (by omega) (by omega), e, Option.bind_some, if_pos (show p.length < 17592186044416 by omega)]
    exact hr
theorem sumL_nine : ∀ l : List Int, (∀ x ∈ l, 1 ≤ x ∧ x ≤ 9) → sumL l ≤ 9 * l.length
  | [], _ => by simp [sumL]
  | x :: l, h => by
    have := h x (by simp)
    have := sumL_nine l (fun y hy => h y (by simp [hy]))
    simp only [sumL, List.length_cons]
    omega
theorem exch_some (l : List Int) (hl : l.length ≤ 4611686018427387904) : ∃ a b c, Ev (fun k => spec_MakeExchange.f k l) (a, b, c) ∧ ExOk a b c := by
  obtain ⟨h, e⟩ := new_some l hl
  obtain ⟨v, t1, t2, e1, v0, v1, ht⟩ := below_some l hl 0 h (by omega) 5 (by omega) (by omega)
  obtain ⟨b, u1, u2, e2, hb, hu⟩ := perm_draw l hl (1 + v) (by omega) (by omega) t1 t2 ht
  obtain ⟨c, w1, w2, e3, hc, hw⟩ := perm_draw l hl (1 + v) (by omega) (by omega) u1 u2 hu
  obtain ⟨a, x1, x2, e4, ha, hx⟩ := lens_draw_l0 l hl (1 + v) (by omega) b c (1 + v).toNat 0 [] w1 w2 (by omega) (by omega) rfl (fun x hx => by simp at hx) hw
  have hb1 := hb.1
  have hc1 := hc.1
  refine ⟨a, b, c, ?_, ⟨by omega, by omega, by omega, fun x h => by have := hx x h; omega, by have := sumL_nine a hx; omega, ⟨by omega, fun x h => by have := hb.2.1 x h; omega, hb.2.2⟩, ⟨by omega, fun x h => by have := hc.2.1 x h; omega, hc.2.2⟩⟩⟩
  unfold spec_MakeExchange.f
  refine Ev.bind e ?_
  refine Ev.bind (a := (a, b, c, x1, x2)) ?_ (Ev.now _)
  unfold spec_l16Draw.f
  simp only [e1, Option.bind_some, pw_wrap (a := 1 + v) (by omega) (by omega)]
  refine Ev.bind e2 ?_
  refine Ev.bind e3 ?_
  exact e4

def totalOf (a b c : List Int) : Int := if exB a b c = true then sumL a else 0
theorem impl_total_l0 (a : List Int) (ha : a.length ≤ 6) (hx : ∀ x ∈ a, 1 ≤ x ∧ x ≤ 60) : ∀ (suf pre : List Int) (s : Int), a = pre ++ suf → 0 ≤ s → s + 60 * suf.length ≤ 360 →
    Ev (fun k => impl_TotalOf.l0 k s a (a.length : Int) (pre.length : Int)) (s + sumL suf) := by
  intro suf
  induction suf with
  | nil =>
    intro pre s h h0 h1
    have hlen : ¬ ((pre.length : Nat) : Int) < (a.length : Int) := by rw [h]; simp
    refine ev_up ?_
    simp only [impl_TotalOf.l0, if_neg hlen, sumL, Int.add_zero]
    exact Ev.now _
  | cons x suf ih =>
    intro pre s h h0 h1
    have hlt : ((pre.length : Nat) : Int) < (a.length : Int) := by rw [h]; exact lt_mid pre suf x
    have hrd : rd a (pre.length : Int) = x := by rw [h]; exact rd_mid pre suf x
    have hw : wrap64 ((pre.length : Int) + 1) = ((pre ++ [x]).length : Int) := wrap_snoc (s := suf) (by rw [← h]; omega)
    have hx1 := hx x (by rw [h]; simp)
    simp at h1
    refine ev_up ?_
    simp only [impl_TotalOf.l0, if_pos hlt, if_pos (Int.natCast_nonneg pre.length), hrd, hw, pw_wrap (a := s + x) (by omega) (by omega), sumL]
    rw [← Int.add_assoc]
    exact ih (pre ++ [x]) (s + x) (by simp [h]) (by omega) (by omega)
theorem impl_total (a b c : List Int) : Ev (fun k => impl_TotalOf.f k a b c) (totalOf a b c) := by
  unfold impl_TotalOf.f totalOf
  refine Ev.bind (impl_exOk a b c) ?_
  by_cases h : exB a b c = true
  · obtain ⟨h1, _, _, h4, _⟩ := exB_side h
    simp only [if_pos h]
    have := impl_total_l0 a h1.2 h4 a [] 0 rfl (by omega) (by omega)
    rw [Int.zero_add] at this
    exact this
  · simp only [if_neg h]
    exact Ev.now _

/-! Lists without a number twice; what is met from a place. -/
theorem nodup_len (n : Nat) : ∀ l : List Int, l.Nodup → (∀ x ∈ l, 0 ≤ x ∧ x < n) → l.length ≤ n := by
  induction n with
  | zero =>
    intro l _ h
    cases l with
    | nil => simp
    | cons x l => have := h x (by simp); omega
  | succ n ih =>
    intro l hn h
    have h2 := ih (l.filter (fun x => x != (n : Int))) (hn.filter _) (fun x hx => by
      have h3 := List.mem_filter.1 hx
      have h4 := h x h3.1
      have h5 : x ≠ (n : Int) := by simpa using h3.2
      omega)
    have h3 : l.length ≤ (l.filter (fun x => x != (n : Int))).length + 1 := by
      clear h h2 ih
      induction l with
      | nil => simp
      | cons y l ihl =>
        have hn2 := List.nodup_cons.1 hn
        by_cases hy : y = (n : Int)
        · have : l.filter (fun x => x != (n : Int)) = l := List.filter_eq_self.2 (fun x hx => by
            have : x ≠ (n : Int) := fun e => hn2.1 (by rw [hy, ← e]; exact hx)
            simpa using this)
          simp [hy, this]
        · have := ihl hn2.2
          simp [hy]
          omega
    omega
/-- Distinct numbers below n. -/
def Few (n : Nat) (q : List Int) : Prop := q.Nodup ∧ ∀ x ∈ q, 0 ≤ x ∧ x < (n : Int)
theorem few_len {n : Nat} {q : List Int} (h : Few n q) : q.length ≤ n := nodup_len n q h.1 h.2
/-- n - 1, .., 0. -/
def ups : Nat → List Int
  | 0 => []
  | n + 1 => (n : Int) :: ups n
theorem mem_ups (x : Int) : ∀ n, x ∈ ups n ↔ 0 ≤ x ∧ x < (n : Int)
  | 0 => by simp [ups]
  | n + 1 => by
    simp only [ups, List.mem_cons, mem_ups x n]
    omega
theorem few_perm : ∀ (n : Nat) (q : List Int), Few n q → q.length = n → q.Perm (ups n)
  | 0, q, _, hl => by
    have : q = [] := List.eq_nil_of_length_eq_zero hl
    subst this
    exact List.Perm.refl _
  | n + 1, q, h, hl => by
    have hm : (n : Int) ∈ q := by
      refine Classical.byContradiction fun hn => ?_
      have := nodup_len n q h.1 (fun x hx => by
        have h2 := h.2 x hx
        have h3 : x ≠ (n : Int) := fun e => hn (e ▸ hx)
        omega)
      omega
    have hp := List.perm_cons_erase hm
    have hf : Few n (q.erase (n : Int)) := by
      refine ⟨h.1.erase _, fun x hx => ?_⟩
      have h2 := h.2 x (List.mem_of_mem_erase hx)
      have h3 : x ≠ (n : Int) := fun e => by
        subst e
        exact (List.Nodup.not_mem_erase h.1) hx
      omega
    have hl2 : (q.erase (n : Int)).length = n := by
      rw [List.length_erase_of_mem hm]
      omega
    exact hp.trans (List.Perm.cons _ (few_perm n _ hf hl2))
theorem perm_few {p : List Int} (h : isPerm p) : Few p.length p := ⟨h.2.2, h.2.1⟩
/-- The sum of the lengths at the places of a list. -/
def sumAt (a : List Int) : List Int → Int
  | [] => 0
  | k :: ks => rd a k + sumAt a ks
theorem sumAt_append (a : List Int) : ∀ p q : List Int, sumAt a (p ++ q) = sumAt a p + sumAt a q
  | [], q => by simp [sumAt]
  | k :: p, q => by simp only [List.cons_append, sumAt, sumAt_append a p q]; omega
theorem sumAt_perm (a : List Int) {p q : List Int} (h : p.Perm q) : sumAt a p = sumAt a q := by
  induction h with
  | nil => rfl
  | cons x _ ih => simp only [sumAt, ih]
  | swap x y l => simp only [sumAt]; omega
  | trans _ _ ih1 ih2 => exact ih1.trans ih2
theorem sumL_append : ∀ p q : List Int, sumL (p ++ q) = sumL p + sumL q
  | [], q => by simp [sumL]
  | k :: p, q => by simp only [List.cons_append, sumL, sumL_append p q]; omega
theorem sumAt_ups (a : List Int) : ∀ n, n ≤ a.length → sumAt a (ups n) = sumL (a.take n)
  | 0, _ => by simp [ups, sumAt, sumL]
  | n + 1, h => by
    have hn : n < a.length := by omega
    rw [ups, sumAt, sumAt_ups a n (by omega), List.take_succ_eq_append_getElem hn, sumL_append]
    simp only [sumL, rd, List.getD, Int.toNat_natCast, List.getElem?_eq_getElem hn, Option.getD_some]
    omega
theorem sumAt_all {a b : List Int} (hb : isPerm b) (hl : b.length = a.length) : sumAt a b = sumL a := by
  rw [sumAt_perm a (few_perm b.length b (perm_few hb) rfl), sumAt_ups a b.length (by omega), hl, List.take_of_length_le (Nat.le_refl _)]

/-- The first place of a part in an order. -/
def startGo (a : List Int) (part : Int) : List Int → Int → Int
  | [], s => s
  | k :: ks, s => if k = part then s else startGo a part ks (s + rd a k)
def startAt (a row : List Int) (part : Int) : Int := startGo a part row 0
theorem startGo_pre (a : List Int) (part : Int) : ∀ (pre suf : List Int) (s : Int), part ∉ pre → startGo a part (pre ++ part :: suf) s = s + sumAt a pre
  | [], suf, s, _ => by simp [startGo, sumAt]
  | k :: pre, suf, s, h => by
    have h1 : k ≠ part := fun e => h (by simp [e])
    have h2 : part ∉ pre := fun e => h (by simp [e])
    simp only [List.cons_append, startGo, if_neg h1, startGo_pre a part pre suf _ h2, sumAt]
    omega
theorem sumAt_nonneg {a : List Int} (h : ∀ x ∈ a, 1 ≤ x ∧ x ≤ 60) : ∀ (p : List Int), (∀ k ∈ p, 0 ≤ k ∧ k < (a.length : Int)) → 0 ≤ sumAt a p ∧ sumAt a p ≤ 60 * p.length
  | [], _ => by simp [sumAt]
  | k :: p, hp => by
    have h1 := rd_len h (hp k (by simp)).1 (hp k (by simp)).2
    have h2 := sumAt_nonneg h p (fun x hx => hp x (by simp [hx]))
    simp only [sumAt, List.length_cons]
    omega
/-- The place to which x is moved, from a part on that begins at s. -/
def moveGo (a c : List Int) (x : Int) : List Int → Int → Int
  | [], _ => -1
  | k :: ks, s => if x < s + rd a k then startAt a c k + x - s else moveGo a c x ks (s + rd a k)
def moveOf (a b c : List Int) (x : Int) : Int := moveGo a c x b 0
def movePlaceOf (a b c : List Int) (x : Int) : Int := if exB a b c = true ∧ 0 ≤ x ∧ x < sumL a then moveOf a b c x else -1
theorem impl_start_l0 (a b c row : List Int) (ha : ∀ x ∈ a, 1 ≤ x ∧ x ≤ 60) (hr : ∀ k ∈ row, 0 ≤ k ∧ k < (a.length : Int)) (hl : row.length ≤ 24) (part : Int) : ∀ (suf pre : List Int) (s : Int), row = pre ++ suf → 0 ≤ s → s + 60 * suf.length ≤ 10000 →
    Ev (fun k => impl_startOf.l0 k part s row (row.length : Int) (pre.length : Int) a b c) (startGo a part suf s) := by
  intro suf
  induction suf with
  | nil =>
    intro pre s h h0 h1
    have hlen : ¬ ((pre.length : Nat) : Int) < (row.length : Int) := by rw [h]; simp
    refine ev_up ?_
    simp only [impl_startOf.l0, if_neg hlen, startGo]
    exact Ev.now _
  | cons x suf ih =>
    intro pre s h h0 h1
    have hlt : ((pre.length : Nat) : Int) < (row.length : Int) := by rw [h]; exact lt_mid pre suf x
    have hrd : rd row (pre.length : Int) = x := by rw [h]; exact rd_mid pre suf x
    have hw : wrap64 ((pre.length : Int) + 1) = ((pre ++ [x]).length : Int) := wrap_snoc (s := suf) (by rw [← h]; omega)
    have hx := hr x (by rw [h]; simp)
    have hlx := rd_len ha hx.1 hx.2
    simp at h1
    refine ev_up ?_
    by_cases hp : x = part
    · simp only [impl_startOf.l0, if_pos hlt, if_pos (Int.natCast_nonneg pre.length), hrd, if_pos hp, startGo]
      exact Ev.now _
    · simp only [impl_startOf.l0, if_pos hlt, if_pos (Int.natCast_nonneg pre.length), hrd, if_neg hp, if_pos hx.1, if_pos hx.2, hw, pw_wrap (a := s + rd a x) (by omega) (by omega), startGo]
      exact ih (pre ++ [x]) (s + rd a x) (by simp [h]) (by omega) (by omega)
theorem impl_start (a b c row : List Int) (ha : ∀ x ∈ a, 1 ≤ x ∧ x ≤ 60) (hr : ∀ k ∈ row, 0 ≤ k ∧ k < (a.length : Int)) (hl : row.length ≤ 24) (part : Int) :
    Ev (fun k => impl_startOf.f k a b c row part) (startAt a row part) :=
  impl_start_l0 a b c row ha hr hl part row [] 0 rfl (by omega) (by omega)
theorem startAt_bd {a c : List Int} (ha : ∀ x ∈ a, 1 ≤ x ∧ x ≤ 60) (hc : isPerm c) (hl : c.length = a.length) {k : Int} (h0 : 0 ≤ k) (h1 : k < (a.length : Int)) : 0 ≤ startAt a c k ∧ startAt a c k + rd a k ≤ sumL a := by
  have hk : k ∈ c := ((few_perm c.length c (perm_few hc) rfl).mem_iff).2 ((mem_ups k _).2 (by omega))
  obtain ⟨pre, suf, hps⟩ := List.append_of_mem hk
  have hn : k ∉ pre := by
    have := hc.2.2
    rw [hps, List.nodup_append] at this
    exact fun h => this.2.2 k h k (by simp) rfl
  have hr : ∀ x ∈ c, 0 ≤ x ∧ x < (a.length : Int) := fun x hx => by have := hc.2.1 x hx; omega
  have e : startAt a c k = sumAt a pre := by unfold startAt; rw [hps, startGo_pre a k pre suf 0 hn]; omega
  have e2 := sumAt_all hc hl
  rw [hps, sumAt_append, sumAt] at e2
  have h2 := sumAt_nonneg ha pre (fun x hx => hr x (by rw [hps]; simp [hx]))
  have h3 := sumAt_nonneg ha suf (fun x hx => hr x (by rw [hps]; simp [hx]))
  omega
theorem ex_rows {a b c : List Int} (h : ExOk a b c) : (∀ k ∈ b, 0 ≤ k ∧ k < (a.length : Int)) ∧ (∀ k ∈ c, 0 ≤ k ∧ k < (a.length : Int)) :=
  ⟨fun x hx => by have := h.pb.2.1 x hx; have := h.lb; omega, fun x hx => by have := h.pc.2.1 x hx; have := h.lc; omega⟩
theorem moveGo_bd {a b c : List Int} (h : ExOk a b c) (x : Int) : ∀ (suf : List Int) (s : Int), (∀ k ∈ suf, 0 ≤ k ∧ k < (a.length : Int)) → s ≤ x → x < s + sumAt a suf → 0 ≤ moveGo a c x suf s ∧ moveGo a c x suf s < sumL a
  | [], s, _, h0, h1 => by simp [sumAt] at h1; omega
  | k :: suf, s, hr, h0, h1 => by
    have hk := hr k (by simp)
    have hb := startAt_bd h.la h.pc h.lc hk.1 hk.2
    simp only [moveGo]
    split
    · omega
    · exact moveGo_bd h x suf _ (fun y hy => hr y (by simp [hy])) (by omega) (by simp only [sumAt] at h1; omega)
theorem moveOf_bd {a b c : List Int} (h : ExOk a b c) {x : Int} (h0 : 0 ≤ x) (h1 : x < sumL a) : 0 ≤ moveOf a b c x ∧ moveOf a b c x < sumL a :=
  moveGo_bd h x b 0 (ex_rows h).1 h0 (by rw [sumAt_all h.pb h.lb]; omega)
theorem start_mid {a b c : List Int} (h : ExOk a b c) {pre suf : List Int} {k : Int} (hb : b = pre ++ k :: suf) : startAt a b k = sumAt a pre := by
  have hn : k ∉ pre := by
    have := h.pb.2.2
    rw [hb, List.nodup_append] at this
    exact fun h => this.2.2 k h k (by simp) rfl
  unfold startAt
  rw [hb, startGo_pre a k pre suf 0 hn]
  omega
theorem impl_move_l0 {a b c : List Int} (h : ExOk a b c) (x : Int) : ∀ (suf pre : List Int), b = pre ++ suf → sumAt a pre ≤ x → x ≤ 1000 →
    Ev (fun k => impl_MovePlace.l0 k x b (b.length : Int) (pre.length : Int) a b c) (moveGo a c x suf (sumAt a pre)) := by
  have hrb := ex_rows h
  have hn := h.n1
  have hlb := h.lb
  intro suf
  induction suf with
  | nil =>
    intro pre hb h0 h1
    have hlen : ¬ ((pre.length : Nat) : Int) < (b.length : Int) := by rw [hb]; simp
    refine ev_up ?_
    simp only [impl_MovePlace.l0, if_neg hlen, moveGo]
    exact Ev.now _
  | cons k suf ih =>
    intro pre hb h0 h1
    have hlt : ((pre.length : Nat) : Int) < (b.length : Int) := by rw [hb]; exact lt_mid pre suf k
    have hrd : rd b (pre.length : Int) = k := by rw [hb]; exact rd_mid pre suf k
    have hw : wrap64 ((pre.length : Int) + 1) = ((pre ++ [k]).length : Int) := wrap_snoc (s := suf) (by rw [← hb]; omega)
    have hk := hrb.1 k (by rw [hb]; simp)
    have hlk := rd_len h.la hk.1 hk.2
    have hbd := startAt_bd h.la h.pc h.lc hk.1 hk.2
    have hsu := h.su
    have hs0 := sumAt_nonneg h.la pre (fun y hy => hrb.1 y (by rw [hb]; simp [hy]))
    have hpl : pre.length ≤ 6 := by omega
    refine ev_up ?_
    simp only [impl_MovePlace.l0, if_pos hlt, if_pos (Int.natCast_nonneg pre.length), hrd]
    refine Ev.bind (impl_start a b c b h.la hrb.1 (by omega) k) ?_
    rw [start_mid h hb]
    simp only [if_pos hk.1, if_pos hk.2, pw_wrap (a := sumAt a pre + rd a k) (by omega) (by omega), moveGo]
    by_cases hx : x < sumAt a pre + rd a k
    · simp only [if_pos hx]
      refine Ev.bind (impl_start a b c c h.la hrb.2 (by have := h.lc; omega) k) ?_
      simp only [pw_wrap (a := startAt a c k + x) (by omega) (by omega), pw_wrap (a := startAt a c k + x - sumAt a pre) (by omega) (by omega)]
      exact Ev.now _
    · simp only [if_neg hx, hw]
      have := ih (pre ++ [k]) (by simp [hb]) (by rw [sumAt_append]; simp only [sumAt]; omega) h1
      rw [sumAt_append] at this
      simp only [sumAt, Int.add_zero] at this
      exact this
theorem impl_movePlace (a b c : List Int) (x : Int) : Ev (fun k => impl_MovePlace.f k a b c x) (movePlaceOf a b c x) := by
  have hbad : ∀ r : Int, r = -1 → Ev (fun k => impl_MovePlace.j0 k x true a b c) r := by
    rintro r rfl
    refine ev_up ?_
    simp only [impl_MovePlace.j0, if_true]
    exact Ev.now _
  unfold impl_MovePlace.f movePlaceOf
  refine Ev.bind (impl_exOk a b c) ?_
  by_cases he : exB a b c = true
  · have hs := (exOk_of he).su
    simp only [if_pos he]
    by_cases h0 : x < 0
    · simp only [if_pos h0]
      exact hbad _ (if_neg (by omega))
    · simp only [if_neg h0]
      refine Ev.bind (impl_total a b c) ?_
      unfold totalOf
      simp only [if_pos he]
      by_cases h1 : x < sumL a
      · rw [decide_eq_false (show ¬ x ≥ sumL a by omega), if_pos (show exB a b c = true ∧ 0 ≤ x ∧ x < sumL a from ⟨he, by omega, h1⟩)]
        refine ev_up ?_
        simp only [impl_MovePlace.j0, Bool.false_eq_true, if_false]
        exact impl_move_l0 (exOk_of he) x b [] rfl (by simp [sumAt]; omega) (by omega)
      · rw [decide_eq_true (show x ≥ sumL a by omega)]
        exact hbad _ (if_neg (by omega))
  · simp only [if_neg he]
    exact hbad _ (if_neg (fun h => he h.1))

/-- How many are not marked. -/
def cf : List Bool → Nat
  | [] => 0
  | b :: bs => (if b = true then 0 else 1) + cf bs
theorem cf_le : ∀ s : List Bool, cf s ≤ s.length
  | [] => Nat.le_refl _
  | b :: bs => by have := cf_le bs; simp only [cf, List.length_cons]; split <;> omega
theorem cf_set : ∀ (s : List Bool) (i : Nat), i < s.length → s.getD i false = false → cf (s.set i true) + 1 = cf s
  | [], i, h, _ => by simp at h
  | b :: bs, 0, _, h => by
    simp at h
    subst h
    simp [cf]
    omega
  | b :: bs, i + 1, h, hb => by
    have := cf_set bs i (by simpa using h) (by simpa using hb)
    simp only [List.set_cons_succ, cf]
    omega
/-- What is marked behind a walk from x on. -/
def walkV (f : Int → Int) : Nat → List Bool → Int → List Bool
  | 0, s, _ => s
  | m + 1, s, x => if rdOf false s x = true then s else walkV f m (s.set x.toNat true) (f x)
theorem walkV_len (f : Int → Int) : ∀ (m : Nat) (s : List Bool) (x : Int), (walkV f m s x).length = s.length
  | 0, _, _ => rfl
  | m + 1, s, x => by
    rw [walkV]
    split
    · rfl
    · rw [walkV_len f m]; simp
/-- The loops that are met from i on. -/
def loopGo (f : Int → Int) : Nat → List Bool → Int → Int → Int
  | 0, _, n, _ => n
  | d + 1, s, n, i => if rdOf false s i = true then loopGo f d s n (i + 1) else loopGo f d (walkV f (s.length + 1) s i) (n + 1) (i + 1)
theorem impl_loops_l1 {a b c : List Int} (he : exB a b c = true) (T : Int) (hT : T = sumL a) (n i : Int) (hi : 0 ≤ i ∧ i ≤ 100) (r : Int) : ∀ (m : Nat) (s : List Bool) (x : Int), (s.length : Int) = T → 0 ≤ x → x < T → cf s < m →
    Ev (fun k => impl_CountLoops.l0 k (walkV (moveOf a b c) m s x) n T (i + 1) a b c) r → Ev (fun k => impl_CountLoops.l1 k s n x T i a b c) r := by
  have h := exOk_of he
  intro m
  induction m with
  | zero => intro s x _ _ _ h0; omega
  | succ m ih =>
    intro s x hl h0 h1 hm hr
    have hsu := h.su
    rw [walkV] at hr
    refine ev_up ?_
    by_cases hb : rdOf false s x = true
    · rw [if_pos hb] at hr
      simp only [impl_CountLoops.l1, if_pos h0, if_pos (show x < (s.length : Int) by omega), if_pos hb, pw_wrap (a := i + 1) (by omega) (by omega)]
      exact hr
    · rw [if_neg hb] at hr
      have hcf := cf_set s x.toNat (by omega) (by simpa [rdOf] using hb)
      have hbd := moveOf_bd h h0 (by omega : x < sumL a)
      simp only [impl_CountLoops.l1, if_pos h0, if_pos (show x < (s.length : Int) by omega), if_neg hb]
      refine Ev.bind (impl_movePlace a b c x) ?_
      rw [movePlaceOf, if_pos (show exB a b c = true ∧ 0 ≤ x ∧ x < sumL a from ⟨he, h0, by omega⟩)]
      exact ih (s.set x.toNat true) _ (by simpa using hl) hbd.1 (by omega) (by omega) hr
theorem impl_loops_l0 {a b c : List Int} (he : exB a b c = true) (T : Int) (hT : T = sumL a) : ∀ (d : Nat) (s : List Bool) (n i : Int), (s.length : Int) = T → 0 ≤ i → i + d = T → 0 ≤ n → n + d ≤ 1000 →
    Ev (fun k => impl_CountLoops.l0 k s n T i a b c) (loopGo (moveOf a b c) d s n i) := by
  have h := exOk_of he
  have hsu := h.su
  intro d
  induction d with
  | zero =>
    intro s n i hl h0 h1 h2 h3
    refine ev_up ?_
    simp only [impl_CountLoops.l0, if_neg (show ¬ i < T by omega), loopGo]
    exact Ev.now _
  | succ d ih =>
    intro s n i hl h0 h1 h2 h3
    refine ev_up ?_
    rw [loopGo]
    by_cases hb : rdOf false s i = true
    · simp only [impl_CountLoops.l0, if_pos (show i < T by omega), if_pos h0, if_pos (show i < (s.length : Int) by omega), if_pos hb]
      refine ev_up ?_
      simp only [impl_CountLoops.j1]
      refine ev_up ?_
      simp only [impl_CountLoops.l1, if_pos h0, if_pos (show i < (s.length : Int) by omega), if_pos hb, pw_wrap (a := i + 1) (by omega) (by omega)]
      exact ih s n (i + 1) hl (by omega) (by omega) h2 (by omega)
    · simp only [impl_CountLoops.l0, if_pos (show i < T by omega), if_pos h0, if_pos (show i < (s.length : Int) by omega), if_neg hb, pw_wrap (a := n + 1) (by omega) (by omega)]
      refine ev_up ?_
      simp only [impl_CountLoops.j1]
      refine impl_loops_l1 he T hT (n + 1) i (by omega) _ (s.length + 1) s i hl h0 (by omega) (by have := cf_le s; omega) ?_
      exact ih _ (n + 1) (i + 1) (by rw [walkV_len]; exact hl) (by omega) (by omega) (by omega) (by omega)
/-- What both answer. -/
def loopsOf (a b c : List Int) : Int := if exB a b c = true then loopGo (moveOf a b c) (sumL a).toNat (List.replicate (sumL a).toNat false) 0 0 else 0
theorem total_bd (a b c : List Int) : 0 ≤ totalOf a b c ∧ totalOf a b c ≤ 60 := by
  unfold totalOf
  split
  · rename_i h
    have h1 := exOk_of h
    have h2 := sumL_bd a h1.la
    have h3 := h1.su
    omega
  · omega
theorem impl_loops (a b c : List Int) : Ev (fun k => impl_CountLoops.f k a b c) (loopsOf a b c) := by
  have ht := total_bd a b c
  unfold impl_CountLoops.f
  refine Ev.bind (impl_total a b c) ?_
  simp only [if_pos ht.1, if_pos (show (totalOf a b c).toNat ≤ 281474976710656 by omega), Option.bind_some, List.length_replicate]
  unfold loopsOf
  unfold totalOf at ht ⊢
  by_cases he : exB a b c = true
  · simp only [if_pos he] at ht ⊢
    rw [show (((sumL a).toNat : Nat) : Int) = sumL a by omega]
    exact impl_loops_l0 he (sumL a) rfl (sumL a).toNat _ 0 0 (by simp; omega) (by omega) (by omega) (by omega) (by omega)
  · simp only [if_neg he]
    refine ev_up ?_
    simp only [impl_CountLoops.l0]
    exact Ev.now _

/-- A number in decimals. -/
def decB (u : Nat) : ByteArray := ⟨(Go.Lib.decDigits u).toArray⟩
def itoaB (n : Int) : ByteArray := ⟨(Go.Lib.itoa n).toArray⟩
theorem nDig_le : ∀ (d u : Nat), u < 10 ^ (d + 1) → Go.Lib.nDigits u ≤ d + 1
  | 0, u, h => by rw [Go.Lib.nDigits_small (by simpa using h)]; omega
  | d + 1, u, h => by
    by_cases hu : u < 10
    · rw [Go.Lib.nDigits_small hu]; omega
    · rw [Go.Lib.nDigits_big hu]
      have := nDig_le d (u / 10) (by rw [Nat.pow_succ] at h; omega)
      omega
theorem decB_size (u : Nat) : (decB u).size = Go.Lib.nDigits u := by
  show (Go.Lib.decDigits u).toArray.size = _
  rw [List.size_toArray, Go.Lib.decDigits_length]
theorem bytes_app (a b : List UInt8) : (⟨a.toArray⟩ : ByteArray) ++ ⟨b.toArray⟩ = ⟨(a ++ b).toArray⟩ := by
  apply ByteArray.ext
  rw [ByteArray.data_append]
  simp
theorem itoaB_pos {n : Int} (h : 0 ≤ n) : itoaB n = decB n.toNat := by
  unfold itoaB Go.Lib.itoa decB
  rw [if_neg (by omega)]
theorem itoaB_neg {n : Int} (h : n < 0) : itoaB n = (⟨#[45]⟩ : ByteArray) ++ decB n.natAbs := by
  unfold itoaB Go.Lib.itoa decB
  rw [if_pos h, show (⟨#[45]⟩ : ByteArray) = ⟨[45].toArray⟩ from rfl, bytes_app]
  rfl
theorem itoaB_size {n : Int} (h0 : -9223372036854775808 ≤ n) (h1 : n ≤ 9223372036854775807) : (itoaB n).size ≤ 20 := by
  by_cases h : 0 ≤ n
  · rw [itoaB_pos h, decB_size]
    have := nDig_le 18 n.toNat (by omega)
    omega
  · rw [itoaB_neg (by omega), ByteArray.size_append, decB_size]
    have := nDig_le 18 n.natAbs (by omega)
    show 1 + _ ≤ 20
    omega
theorem impl_fmtint {n : Int} (h0 : -9223372036854775808 ≤ n) (h1 : n ≤ 9223372036854775807) : impl_FormatInt.f n = some (itoaB n) := by
  unfold impl_FormatInt.f strconv_Itoa.f
  rw [if_pos ⟨h0, h1⟩]
  rfl
def joinOf (l : List ByteArray) (sep : ByteArray) : ByteArray := ⟨(joinB l sep).toArray⟩
def tot (l : List ByteArray) (sep : ByteArray) : Nat := match l with
  | [] => 0
  | x :: xs => x.size + sep.size + tot xs sep
theorem join_two (sep a : List UInt8) (xs : List (List UInt8)) (h : xs ≠ []) : Go.Lib.join (a :: xs) sep = a ++ sep ++ Go.Lib.join xs sep := by
  cases xs with
  | nil => exact absurd rfl h
  | cons b t => simp [Go.Lib.join, List.intercalate]
theorem bytes_self (x : ByteArray) : (⟨x.data.toList.toArray⟩ : ByteArray) = x := by
  apply ByteArray.ext
  simp
theorem joinOf_nil (sep : ByteArray) : joinOf [] sep = ⟨#[]⟩ := by simp [joinOf, joinB, Go.Lib.join, List.intercalate]
theorem joinOf_one (x sep : ByteArray) : joinOf [x] sep = x := by
  simp [joinOf, joinB, Go.Lib.join, List.intercalate]
theorem joinOf_size (sep : ByteArray) : ∀ (l : List ByteArray), (joinOf l sep).size ≤ tot l sep
  | [] => by rw [joinOf_nil]; exact Nat.zero_le _
  | [x] => by rw [joinOf_one]; simp only [tot]; omega
  | x :: y :: l => by
    have h : joinOf (x :: y :: l) sep = x ++ sep ++ joinOf (y :: l) sep := by
      unfold joinOf joinB
      rw [List.map_cons, join_two _ _ _ (by simp), ← bytes_app, ← bytes_app, bytes_self, bytes_self]
    rw [h, ByteArray.size_append, ByteArray.size_append]
    have := joinOf_size sep (y :: l)
    rw [tot]
    omega
theorem impl_join (sep : ByteArray) (l : List ByteArray) (hl : l.length ≤ 1000000000000) (ht : tot l sep ≤ 1000000000000) : impl_Join.f l sep = some (joinOf l sep) := by
  unfold impl_Join.f strings_Join.f
  have hs : (joinB l sep).length ≤ tot l sep := by
    have := joinOf_size sep l
    exact this
  rw [if_pos ⟨by omega, by omega⟩]
  rfl

def Ints64 (l : List Int) : Prop := ∀ x ∈ l, -9223372036854775808 ≤ x ∧ x ≤ 9223372036854775807
theorem tot_ints (sep : ByteArray) (hs : sep.size = 1) : ∀ (l : List Int), Ints64 l → tot (l.map itoaB) sep ≤ 21 * l.length
  | [], _ => by simp [tot]
  | x :: l, h => by
    have h1 := tot_ints sep hs l (fun y hy => h y (List.mem_cons_of_mem _ hy))
    have h2 := h x List.mem_cons_self
    have h3 := itoaB_size h2.1 h2.2
    simp only [List.map_cons, tot, List.length_cons]
    omega
theorem impl_ints_l0 (sep : ByteArray) (hs : sep.size = 1) (l : List Int) (hl : l.length ≤ 1048576) (h : Ints64 l) : ∀ (suf pre : List Int), l = pre ++ suf → Ev (fun k => impl_joinInts.l0 k sep (pre.map itoaB) l (l.length : Int) (pre.length : Int)) (joinOf (l.map itoaB) sep)
  | [], pre, e => by
    refine ev_up ?_
    have e2 : l = pre := by simpa using e
    subst e2
    have := tot_ints sep hs l h
    simp only [impl_joinInts.l0, if_neg (show ¬ ((l.length : Int) < l.length) by omega), impl_join sep (l.map itoaB) (by rw [List.length_map]; omega) (by omega), Option.bind_some]
    exact Ev.now _
  | x :: suf, pre, e => by
    refine ev_up ?_
    have hlen : l.length = pre.length + suf.length + 1 := by rw [e]; simp; omega
    have hx : rd l (pre.length : Int) = x := by rw [e]; exact rd_mid _ _ _
    have hxm := h x (by rw [e]; simp)
    have hw : wrap64 ((pre.length : Int) + 1) = ((pre ++ [x]).length : Int) := by rw [pw_wrap (by omega) (by omega)]; simp
    have ih := impl_ints_l0 sep hs l hl h suf (pre ++ [x]) (by simp [e])
    simp only [impl_joinInts.l0, if_pos (show ((pre.length : Int) < l.length) by omega), if_pos (show (0 ≤ (pre.length : Int)) by omega), hx, hw, impl_fmtint hxm.1 hxm.2, Option.bind_some]
    refine Ev.congr (f := fun k => _) (fun k => if_pos (by rw [List.length_map]; omega)) ?_
    rw [List.map_append] at ih
    exact ih
theorem impl_ints (sep : ByteArray) (hs : sep.size = 1) (l : List Int) (hl : l.length ≤ 1048576) (h : Ints64 l) : Ev (fun k => impl_joinInts.f k l sep) (joinOf (l.map itoaB) sep) := by
  unfold impl_joinInts.f
  exact impl_ints_l0 sep hs l hl h l [] rfl
def listT (l : List Int) : ByteArray := if (l.length : Int) = 0 then ⟨#[45]⟩ else joinOf (l.map itoaB) ⟨#[44]⟩
theorem impl_list (l : List Int) (hl : l.length ≤ 1048576) (h : Ints64 l) : Ev (fun k => impl_FormatList.f k l) (listT l) := by
  unfold impl_FormatList.f listT
  by_cases h0 : (l.length : Int) = 0
  · simp only [if_pos h0]
    exact Ev.now _
  · simp only [if_neg h0]
    exact Ev.bind (impl_ints _ rfl l hl h) (Ev.now _)
theorem listT_size (l : List Int) (h : Ints64 l) : (listT l).size ≤ 21 * l.length + 1 := by
  unfold listT
  split
  · rw [show (⟨#[45]⟩ : ByteArray).size = 1 from rfl]
    omega
  · have := joinOf_size ⟨#[44]⟩ (l.map itoaB)
    have := tot_ints ⟨#[44]⟩ rfl l h
    omega

theorem loopGo_bd (f : Int → Int) : ∀ (d : Nat) (s : List Bool) (n i : Int), n ≤ loopGo f d s n i ∧ loopGo f d s n i ≤ n + d
  | 0, _, n, _ => by simp [loopGo]
  | d + 1, s, n, i => by
    rw [loopGo]
    split
    · have := loopGo_bd f d s n (i + 1)
      omega
    · have := loopGo_bd f d (walkV f (s.length + 1) s i) (n + 1) (i + 1)
      omega
theorem loopsOf_bd (a b c : List Int) : 0 ≤ loopsOf a b c ∧ loopsOf a b c ≤ 60 := by
  have ht := total_bd a b c
  unfold loopsOf
  unfold totalOf at ht
  split
  · rename_i he
    simp only [if_pos he] at ht
    have := loopGo_bd (moveOf a b c) (sumL a).toNat (List.replicate (sumL a).toNat false) 0 0
    omega
  · omega
def exT (a b c : List Int) : ByteArray := if exB a b c = true then listT a ++ (⟨#[32]⟩ : ByteArray) ++ listT b ++ (⟨#[32]⟩ : ByteArray) ++ listT c ++ (⟨#[32, 108, 111, 111, 112, 115, 32]⟩ : ByteArray) ++ itoaB (loopsOf a b c) else ⟨#[]⟩
theorem ex_ints {a b c : List Int} (h : exB a b c = true) : Ints64 a ∧ Ints64 b ∧ Ints64 c ∧ a.length ≤ 6 ∧ b.length ≤ 6 ∧ c.length ≤ 6 := by
  obtain ⟨h1, h2, h3, h4, h5, h6, h7⟩ := exB_side h
  refine ⟨fun x hx => by have := h4 x hx; omega, fun x hx => by have := h6.2.1 x hx; omega, fun x hx => by have := h7.2.1 x hx; omega, by omega, by omega, by omega⟩
theorem impl_exline (a b c : List Int) : Ev (fun k => impl_ExchangeLine.f k a b c) (exT a b c) := by
  unfold impl_ExchangeLine.f exT
  refine Ev.bind (impl_exOk a b c) ?_
  by_cases h : exB a b c = true
  · obtain ⟨ia, ib, ic, la, lb, lc⟩ := ex_ints h
    have sa := listT_size a ia
    have sb := listT_size b ib
    have sc := listT_size c ic
    have hb := loopsOf_bd a b c
    have sn := itoaB_size (n := loopsOf a b c) (by omega) (by omega)
    have e1 : (⟨#[32]⟩ : ByteArray).size = 1 := rfl
    have e7 : (⟨#[32, 108, 111, 111, 112, 115, 32]⟩ : ByteArray).size = 7 := rfl
    simp only [if_pos h]
    refine Ev.bind (impl_list a (by omega) ia) ?_
    refine Ev.congr (f := fun k => _) (fun k => if_pos (by omega)) ?_
    refine Ev.bind (impl_list b (by omega) ib) ?_
    refine Ev.congr (f := fun k => _) (fun k => if_pos (by simp only [ByteArray.size_append, e1]; omega)) ?_
    refine Ev.congr (f := fun k => _) (fun k => if_pos (by simp only [ByteArray.size_append, e1]; omega)) ?_
    refine Ev.bind (impl_list c (by omega) ic) ?_
    refine Ev.congr (f := fun k => _) (fun k => if_pos (by simp only [ByteArray.size_append, e1]; omega)) ?_
    refine Ev.congr (f := fun k => _) (fun k => if_pos (by simp only [ByteArray.size_append, e1]; omega)) ?_
    refine Ev.bind (impl_loops a b c) ?_
    simp only [impl_fmtint (n := loopsOf a b c) (by omega) (by omega), Option.bind_some]
    exact Ev.congr (fun k => if_pos (by simp only [ByteArray.size_append, e1, e7]; omega)) (Ev.now _)
  · simp only [if_neg h]
    exact Ev.now _

/-- A step again and again. -/
def iter (f : Int → Int) : Nat → Int → Int
  | 0, x => x
  | m + 1, x => iter f m (f x)
theorem iter_succ (f : Int → Int) : ∀ (m : Nat) (x : Int), iter f (m + 1) x = f (iter f m x)
  | 0, _ => rfl
  | m + 1, x => by rw [iter, iter_succ f m (f x), ← iter]
theorem iter_bd {n : Nat} {f : Int → Int} (hb : ∀ x : Int, 0 ≤ x → x < n → 0 ≤ f x ∧ f x < n) : ∀ (m : Nat) {x : Int}, 0 ≤ x → x < n → 0 ≤ iter f m x ∧ iter f m x < n
  | 0, _, h0, h1 => ⟨h0, h1⟩
  | m + 1, x, h0, h1 => iter_bd hb m (hb x h0 h1).1 (hb x h0 h1).2
def orb (f : Int → Int) : Nat → Int → List Int
  | 0, x => [x]
  | k + 1, x => x :: (orb f k x).map f
theorem orb_len (f : Int → Int) : ∀ (k : Nat) (x : Int), (orb f k x).length = k + 1
  | 0, _ => rfl
  | k + 1, x => by simp [orb, orb_len f k x]
theorem orb_mem (f : Int → Int) : ∀ (k : Nat) (x y : Int), y ∈ orb f k x → ∃ m, m ≤ k ∧ y = iter f m x
  | 0, x, y, h => by
    simp only [orb, List.mem_singleton] at h
    exact ⟨0, Nat.le_refl _, h⟩
  | k + 1, x, y, h => by
    simp only [orb, List.mem_cons, List.mem_map] at h
    rcases h with rfl | ⟨z, hz, rfl⟩
    · exact ⟨0, by omega, rfl⟩
    · obtain ⟨m, hm, rfl⟩ := orb_mem f k x z hz
      exact ⟨m + 1, by omega, (iter_succ f m x).symm⟩
theorem map_nodup {n : Nat} {g : Int → Int} (hg : ∀ x y : Int, 0 ≤ x → x < n → 0 ≤ y → y < n → g x = g y → x = y) : ∀ q : List Int, (∀ x ∈ q, 0 ≤ x ∧ x < (n : Int)) → q.Nodup → (q.map g).Nodup
  | [], _, _ => List.nodup_nil
  | y :: q, hb, hn => by
    have hn2 := List.nodup_cons.1 hn
    rw [List.map_cons, List.nodup_cons]
    refine ⟨fun hm => ?_, map_nodup hg q (fun z hz => hb z (List.mem_cons_of_mem _ hz)) hn2.2⟩
    obtain ⟨z, hz, e⟩ := List.mem_map.1 hm
    have b1 := hb z (List.mem_cons_of_mem _ hz)
    have b2 := hb y List.mem_cons_self
    have := hg z y b1.1 b1.2 b2.1 b2.2 e
    subst this
    exact hn2.1 hz
theorem orb_few {n : Nat} {f : Int → Int} (hb : ∀ x : Int, 0 ≤ x → x < n → 0 ≤ f x ∧ f x < n) (hg : ∀ x y : Int, 0 ≤ x → x < n → 0 ≤ y → y < n → f x = f y → x = y) {x : Int} (h0 : 0 ≤ x) (h1 : x < n) : ∀ k : Nat, (∀ m, 1 ≤ m → m ≤ k → iter f m x ≠ x) → Few n (orb f k x)
  | 0, _ => ⟨by simp [orb], fun y hy => by simp only [orb, List.mem_singleton] at hy; subst hy; exact ⟨h0, h1⟩⟩
  | k + 1, h => by
    have ih := orb_few hb hg h0 h1 k (fun m a b => h m a (by omega))
    refine ⟨?_, fun y hy => ?_⟩
    · rw [orb, List.nodup_cons]
      refine ⟨fun hm => ?_, map_nodup hg _ ih.2 ih.1⟩
      obtain ⟨z, hz, e⟩ := List.mem_map.1 hm
      obtain ⟨m, hm2, rfl⟩ := orb_mem f k x z hz
      have e : f (iter f m x) = x := e
      rw [← iter_succ f m x] at e
      exact h (m + 1) (by omega) (by omega) e
    · obtain ⟨m, _, rfl⟩ := orb_mem f (k + 1) x y hy
      exact iter_bd hb m h0 h1
/-- A one-to-one step on n places comes back within n steps. -/
theorem iter_ret {n : Nat} {f : Int → Int} (hb : ∀ x : Int, 0 ≤ x → x < n → 0 ≤ f x ∧ f x < n) (hg : ∀ x y : Int, 0 ≤ x → x < n → 0 ≤ y → y < n → f x = f y → x = y) {x : Int} (h0 : 0 ≤ x) (h1 : x < n) : ∃ m, 1 ≤ m ∧ m ≤ n ∧ iter f m x = x := by
  refine Classical.byContradiction fun hc => ?_
  have := few_len (orb_few hb hg h0 h1 n (fun m a b e => hc ⟨m, a, b, e⟩))
  rw [orb_len] at this
  omega
theorem row_split {p : List Int} (hp : isPerm p) {k : Int} (h0 : 0 ≤ k) (h1 : k < p.length) : ∃ pre suf, p = pre ++ k :: suf ∧ k ∉ pre ∧ k ∉ suf := by
  have hk : k ∈ p := ((few_perm p.length p (perm_few hp) rfl).mem_iff).2 ((mem_ups k _).2 ⟨h0, h1⟩)
  obtain ⟨pre, suf, e⟩ := List.append_of_mem hk
  have hn := hp.2.2
  rw [e, List.nodup_append] at hn
  exact ⟨pre, suf, e, fun h => hn.2.2 k h k (by simp) rfl, (List.nodup_cons.1 hn.2.1).1⟩
theorem startAt_split (a : List Int) {row pre suf : List Int} {k : Int} (e : row = pre ++ k :: suf) (hn : k ∉ pre) : startAt a row k = sumAt a pre := by
  unfold startAt
  rw [e, startGo_pre a k pre suf 0 hn]
  omega
theorem sumAt_nn {a : List Int} : ∀ p : List Int, (∀ k ∈ p, 0 ≤ rd a k) → 0 ≤ sumAt a p
  | [], _ => Int.le_refl 0
  | k :: p, h => by
    have h1 := h k (by simp)
    have h2 := sumAt_nn p (fun x hx => h x (by simp [hx]))
    simp only [sumAt]
    omega
theorem moveGo_skip {a c : List Int} (x : Int) : ∀ (pre suf : List Int) (s : Int), (∀ k ∈ pre, 0 ≤ rd a k) → s + sumAt a pre ≤ x → moveGo a c x (pre ++ suf) s = moveGo a c x suf (s + sumAt a pre)
  | [], suf, s, _, _ => by simp [sumAt]
  | k :: pre, suf, s, h, hx => by
    have h2 := sumAt_nn pre (fun y hy => h y (by simp [hy]))
    simp only [sumAt] at hx ⊢
    rw [List.cons_append, moveGo, if_neg (by omega), moveGo_skip x pre suf (s + rd a k) (fun y hy => h y (by simp [hy])) (by omega)]
    congr 1
    omega
theorem ex_nn {a b c : List Int} (h : ExOk a b c) {k : Int} (h0 : 0 ≤ k) (h1 : k < a.length) : 1 ≤ rd a k := (rd_len h.la h0 h1).1
theorem rows_nn {a b c : List Int} (h : ExOk a b c) {row pre suf : List Int} (hr : ∀ k ∈ row, 0 ≤ k ∧ k < (a.length : Int)) (e : row = pre ++ suf) : ∀ k ∈ pre, 0 ≤ rd a k := fun k hk => by
  have := hr k (by rw [e]; simp [hk])
  have := ex_nn h this.1 this.2
  omega
/-- What a part's places are moved to. -/
theorem move_at {a b c : List Int} (h : ExOk a b c) {k t : Int} (k0 : 0 ≤ k) (k1 : k < a.length) (t0 : 0 ≤ t) (t1 : t < rd a k) : moveOf a b c (startAt a b k + t) = startAt a c k + t := by
  obtain ⟨pre, suf, e, hn, _⟩ := row_split h.pb k0 (by have := h.lb; omega)
  rw [startAt_split a e hn]
  unfold moveOf
  rw [e, moveGo_skip _ pre (k :: suf) 0 (rows_nn h (ex_rows h).1 e) (by omega), moveGo, if_pos (by omega)]
  omega
theorem place_go (a : List Int) (x : Int) : ∀ (suf : List Int) (s : Int), s ≤ x → x < s + sumAt a suf → ∃ p1 k p2, suf = p1 ++ k :: p2 ∧ s + sumAt a p1 ≤ x ∧ x < s + sumAt a p1 + rd a k
  | [], s, h0, h1 => by simp only [sumAt] at h1; omega
  | k :: suf, s, h0, h1 => by
    by_cases hk : x < s + rd a k
    · exact ⟨[], k, suf, rfl, by simp only [sumAt]; omega, by simp only [sumAt]; omega⟩
    · obtain ⟨p1, l, p2, e, h2, h3⟩ := place_go a x suf (s + rd a k) (by omega) (by simp only [sumAt] at h1; omega)
      exact ⟨k :: p1, l, p2, by rw [e]; rfl, by simp only [sumAt]; omega, by simp only [sumAt]; omega⟩
theorem place_of {a b c : List Int} (h : ExOk a b c) {x : Int} (h0 : 0 ≤ x) (h1 : x < sumL a) : ∃ k t : Int, 0 ≤ k ∧ k < a.length ∧ 0 ≤ t ∧ t < rd a k ∧ x = startAt a b k + t := by
  obtain ⟨p1, k, p2, e, h2, h3⟩ := place_go a x b 0 h0 (by rw [sumAt_all h.pb h.lb]; omega)
  have hk := (ex_rows h).1 k (by rw [e]; simp)
  have hn : k ∉ p1 := by
    have := h.pb.2.2
    rw [e, List.nodup_append] at this
    exact fun hm => this.2.2 k hm k (by simp) rfl
  exact ⟨k, x - sumAt a p1, hk.1, hk.2, by omega, by omega, by rw [startAt_split a e hn]; omega⟩
/-- Two parts lie one behind the other. -/
theorem row_apart {a b c row : List Int} (h : ExOk a b c) (hp : isPerm row) (hl : row.length = a.length) {k l : Int} (k0 : 0 ≤ k) (k1 : k < a.length) (l0 : 0 ≤ l) (l1 : l < a.length) (hkl : k ≠ l) :
    startAt a row k + rd a k ≤ startAt a row l ∨ startAt a row l + rd a l ≤ startAt a row k := by
  obtain ⟨pre, suf, e, hn, hs⟩ := row_split hp k0 (by omega)
  have hr : ∀ x ∈ row, 0 ≤ x ∧ x < (a.length : Int) := fun x hx => by have := hp.2.1 x hx; omega
  have hnn : ∀ {pre suf : List Int}, row = pre ++ suf → 0 ≤ sumAt a pre := fun e => sumAt_nn _ (rows_nn h hr e)
  have hk := startAt_split a e hn
  obtain ⟨p2, s2, e2, hn2, hs2⟩ := row_split hp l0 (by omega)
  have hl2 := startAt_split a e2 hn2
  have hlm : l ∈ row := by rw [e2]; simp
  rw [e] at hlm
  rcases List.mem_append.1 hlm with hm | hm
  · right
    obtain ⟨q1, q2, e3⟩ := List.append_of_mem hm
    have e4 : row = q1 ++ l :: (q2 ++ k :: suf) := by rw [e, e3]; simp
    have hq : l ∉ q1 := by
      have := hp.2.2
      rw [e4, List.nodup_append] at this
      exact fun hm => this.2.2 l hm l (by simp) rfl
    have hl3 := startAt_split a e4 hq
    have hq2 : 0 ≤ sumAt a q2 := sumAt_nn _ (fun x hx => by
      have := hr x (by rw [e4]; simp [hx])
      have := ex_nn h this.1 this.2
      omega)
    rw [hk, hl3, e3, sumAt_append, sumAt]
    omega
  · left
    have hm2 : l ∈ suf := (List.mem_cons.1 hm).resolve_left (fun e => hkl e.symm)
    obtain ⟨q1, q2, e3⟩ := List.append_of_mem hm2
    have e4 : row = (pre ++ k :: q1) ++ l :: q2 := by rw [e, e3]; simp
    have hq : l ∉ (pre ++ k :: q1) := by
      have := hp.2.2
      rw [e4, List.nodup_append] at this
      exact fun hm => this.2.2 l hm l (by simp) rfl
    have hl3 := startAt_split a e4 hq
    have hq2 : 0 ≤ sumAt a q1 := sumAt_nn _ (fun x hx => by
      have := hr x (by rw [e4]; simp [hx])
      have := ex_nn h this.1 this.2
      omega)
    rw [hk, hl3, sumAt_append, sumAt]
    omega
theorem move_inj {a b c : List Int} (h : ExOk a b c) {x y : Int} (x0 : 0 ≤ x) (x1 : x < sumL a) (y0 : 0 ≤ y) (y1 : y < sumL a) (e : moveOf a b c x = moveOf a b c y) : x = y := by
  obtain ⟨k, t, k0, k1, t0, t1, rfl⟩ := place_of h x0 x1
  obtain ⟨l, u, l0, l1, u0, u1, rfl⟩ := place_of h y0 y1
  rw [move_at h k0 k1 t0 t1, move_at h l0 l1 u0 u1] at e
  by_cases hkl : k = l
  · subst hkl
    omega
  · rcases row_apart h h.pc h.lc k0 k1 l0 l1 hkl with hd | hd <;> omega
/-! The map of the shorter exchange is the first return. -/
structure Step (f g : Int → Int) (T S : Int) : Prop where
  s0 : 0 ≤ S
  le : S ≤ T
  bd : ∀ x, 0 ≤ x → x < T → 0 ≤ f x ∧ f x < T
  inj : ∀ x y, 0 ≤ x → x < T → 0 ≤ y → y < T → f x = f y → x = y
  one : ∀ x, 0 ≤ x → x < S → g x = if f x < S then f x else f (f x)
  two : ∀ x, S ≤ x → x < T → f x < S
theorem Step.bdg {f g : Int → Int} {T S : Int} (h : Step f g T S) {x : Int} (h0 : 0 ≤ x) (h1 : x < S) : 0 ≤ g x ∧ g x < S := by
  have hl := h.le
  have b := h.bd x h0 (by omega)
  rw [h.one x h0 h1]
  split
  · omega
  · have b2 := h.bd (f x) b.1 b.2
    have := h.two (f x) (by omega) b.2
    omega
theorem iter_add (f : Int → Int) : ∀ (m n : Nat) (x : Int), iter f (m + n) x = iter f n (iter f m x)
  | 0, n, x => by rw [Nat.zero_add]; rfl
  | m + 1, n, x => by rw [Nat.add_right_comm, iter, iter, iter_add f m n (f x)]
theorem iter_mul {f : Int → Int} {p : Nat} {x : Int} (h : iter f p x = x) : ∀ m, iter f (p * m) x = x
  | 0 => rfl
  | m + 1 => by rw [Nat.mul_succ, iter_add, iter_mul h m, h]
/-- Whoever is met meets back. -/
theorem iter_back {f : Int → Int} {T : Nat} (hb : ∀ x : Int, 0 ≤ x → x < T → 0 ≤ f x ∧ f x < T) (hi : ∀ x y : Int, 0 ≤ x → x < T → 0 ≤ y → y < T → f x = f y → x = y) {x : Int} (h0 : 0 ≤ x) (h1 : x < T) (m : Nat) : ∃ q, iter f q (iter f m x) = x := by
  obtain ⟨p, p1, _, e⟩ := iter_ret (n := T) hb hi h0 h1
  refine ⟨p * m - m, ?_⟩
  have hle : m ≤ p * m := Nat.le_mul_of_pos_left m p1
  rw [← iter_add, show m + (p * m - m) = p * m from by omega]
  exact iter_mul e m
theorem orbit_fwd {f g : Int → Int} {T S : Int} (h : Step f g T S) : ∀ (m : Nat) {j : Int}, 0 ≤ j → j < S → ∃ q, iter g m j = iter f q j
  | 0, _, _, _ => ⟨0, rfl⟩
  | m + 1, j, h0, h1 => by
    have b := h.bdg h0 h1
    obtain ⟨q, e⟩ := orbit_fwd h m b.1 b.2
    have ho := h.one j h0 h1
    by_cases hf : f j < S
    · rw [if_pos hf] at ho
      exact ⟨q + 1, by rw [iter, e, ho]; rfl⟩
    · rw [if_neg hf] at ho
      exact ⟨q + 2, by rw [iter, e, ho]; rfl⟩
theorem orbit_bwd {f g : Int → Int} {T S : Int} (h : Step f g T S) : ∀ (n m : Nat), m ≤ n → ∀ {j : Int}, 0 ≤ j → j < S → iter f m j < S → ∃ q, iter f m j = iter g q j
  | _, 0, _, _, _, _, _ => ⟨0, rfl⟩
  | 0, m + 1, hm, _, _, _, _ => absurd hm (by omega)
  | n + 1, m + 1, hm, j, h0, h1, hx => by
    have b := h.bdg h0 h1
    have ho := h.one j h0 h1
    by_cases hf : f j < S
    · rw [if_pos hf] at ho
      obtain ⟨q, e⟩ := orbit_bwd h n m (by omega) (j := f j) (by rw [← ho]; exact b.1) hf hx
      exact ⟨q + 1, by rw [iter, iter, e, ho]⟩
    · rw [if_neg hf] at ho
      cases m with
      | zero => exact absurd hx hf
      | succ m =>
        obtain ⟨q, e⟩ := orbit_bwd h n m (by omega) (j := f (f j)) (by rw [← ho]; exact b.1) (by rw [← ho]; exact b.2) hx
        exact ⟨q + 1, by rw [iter, iter, iter, e, ho]⟩
/-! What the loops of CountLoops mark. -/
theorem rdOf_set (s : List Bool) {x y : Int} (x0 : 0 ≤ x) (x1 : x < s.length) (y0 : 0 ≤ y) : rdOf false (s.set x.toNat true) y = true ↔ (rdOf false s y = true ∨ y = x) := by
  by_cases h : y = x
  · subst h
    have : y.toNat < s.length := by omega
    simp [rdOf, this]
  · have : x.toNat ≠ y.toNat := by omega
    simp [rdOf, List.getElem?_set_ne this, h]
theorem walkV_spec {f : Int → Int} {T : Nat} (hb : ∀ x : Int, 0 ≤ x → x < T → 0 ≤ f x ∧ f x < T) : ∀ (m : Nat) (s : List Bool) (x : Int), s.length = T → cf s < m → 0 ≤ x → x < T → (∀ y : Int, 0 ≤ y → y < T → rdOf false s y = true → rdOf false s (f y) = true ∨ f y = x) →
    (∀ y : Int, 0 ≤ y → y < T → rdOf false (walkV f m s x) y = true → rdOf false s y = true ∨ ∃ q, y = iter f q x) ∧ (∀ y : Int, 0 ≤ y → y < T → rdOf false s y = true → rdOf false (walkV f m s x) y = true) ∧ rdOf false (walkV f m s x) x = true ∧ (∀ y : Int, 0 ≤ y → y < T → rdOf false (walkV f m s x) y = true → rdOf false (walkV f m s x) (f y) = true)
  | 0, s, x, _, h, _, _, _ => absurd h (by omega)
  | m + 1, s, x, hl, hm, x0, x1, hi => by
    rw [walkV]
    by_cases hx : rdOf false s x = true
    · rw [if_pos hx]
      refine ⟨fun y _ _ h => .inl h, fun y _ _ h => h, hx, fun y y0 y1 h => ?_⟩
      rcases hi y y0 y1 h with h2 | h2
      · exact h2
      · rw [h2]; exact hx
    · rw [if_neg hx]
      have hcf := cf_set s x.toNat (by omega) (by simpa [rdOf] using hx)
      have b := hb x x0 x1
      have hset := fun (y : Int) (y0 : 0 ≤ y) => rdOf_set s (x := x) (y := y) x0 (by omega) y0
      obtain ⟨h1, h2, h3, h4⟩ := walkV_spec hb m (s.set x.toNat true) (f x) (by simpa using hl) (by omega) b.1 b.2 (fun y y0 y1 h => by
        rcases (hset y y0).1 h with h | h
        · rcases hi y y0 y1 h with h5 | h5
          · exact .inl ((hset _ (hb y y0 y1).1).2 (.inl h5))
          · exact .inl ((hset _ (hb y y0 y1).1).2 (.inr h5))
        · exact .inr (by rw [h]))
      refine ⟨fun y y0 y1 h => ?_, fun y y0 y1 h => h2 y y0 y1 ((hset y y0).2 (.inl h)), h2 x x0 x1 ((hset x x0).2 (.inr rfl)), h4⟩
      rcases h1 y y0 y1 h with h5 | ⟨q, e⟩
      · rcases (hset y y0).1 h5 with h6 | h6
        · exact .inl h6
        · exact .inr ⟨0, h6⟩
      · exact .inr ⟨q + 1, e⟩
/-- What is marked when the first i places have been looked at. -/
def Seen (f : Int → Int) (T : Nat) (i : Int) (s : List Bool) : Prop := s.length = T ∧ ∀ y : Int, 0 ≤ y → y < T → (rdOf false s y = true ↔ ∃ j m, 0 ≤ j ∧ j < i ∧ y = iter f m j)
theorem Seen.closed {f : Int → Int} {T : Nat} (hb : ∀ x : Int, 0 ≤ x → x < T → 0 ≤ f x ∧ f x < T) {i : Int} {s : List Bool} (h : Seen f T i s) (y : Int) (y0 : 0 ≤ y) (y1 : y < T) (hy : rdOf false s y = true) : rdOf false s (f y) = true := by
  obtain ⟨j, m, j0, j1, e⟩ := (h.2 y y0 y1).1 hy
  have b := hb y y0 y1
  exact (h.2 _ b.1 b.2).2 ⟨j, m + 1, j0, j1, by rw [iter_succ, e]⟩
theorem Seen.same {f : Int → Int} {T : Nat} {i : Int} {s : List Bool} (h : Seen f T i s) (i0 : 0 ≤ i) (i1 : i < T) (hi : rdOf false s i = true) : Seen f T (i + 1) s := by
  refine ⟨h.1, fun y y0 y1 => ⟨fun hy => ?_, fun ⟨j, m, j0, j1, e⟩ => ?_⟩⟩
  · obtain ⟨j, m, j0, j1, e⟩ := (h.2 y y0 y1).1 hy
    exact ⟨j, m, j0, by omega, e⟩
  · by_cases hj : j = i
    · subst hj
      obtain ⟨l, q, l0, l1, e2⟩ := (h.2 j i0 i1).1 hi
      exact (h.2 y y0 y1).2 ⟨l, q + m, l0, l1, by rw [iter_add, ← e2, e]⟩
    · exact (h.2 y y0 y1).2 ⟨j, m, j0, by omega, e⟩
theorem Seen.next {f : Int → Int} {T : Nat} (hb : ∀ x : Int, 0 ≤ x → x < T → 0 ≤ f x ∧ f x < T) {i : Int} {s : List Bool} (h : Seen f T i s) (i0 : 0 ≤ i) (i1 : i < T) : Seen f T (i + 1) (walkV f (s.length + 1) s i) := by
  obtain ⟨h1, h2, h3, h4⟩ := walkV_spec hb (s.length + 1) s i h.1 (by have := cf_le s; omega) i0 i1 (fun y y0 y1 hy => .inl (h.closed hb y y0 y1 hy))
  refine ⟨by rw [walkV_len]; exact h.1, fun y y0 y1 => ⟨fun hy => ?_, fun ⟨j, m, j0, j1, e⟩ => ?_⟩⟩
  · rcases h1 y y0 y1 hy with h5 | ⟨q, e⟩
    · obtain ⟨j, m, j0, j1, e⟩ := (h.2 y y0 y1).1 h5
      exact ⟨j, m, j0, by omega, e⟩
    · exact ⟨i, q, i0, by omega, e⟩
  · by_cases hj : j = i
    · subst hj
      have all : ∀ m : Nat, rdOf false (walkV f (s.length + 1) s j) (iter f m j) = true ∧ 0 ≤ iter f m j ∧ iter f m j < T := by
        intro m
        induction m with
        | zero => exact ⟨h3, j0, i1⟩
        | succ m ih =>
          rw [iter_succ]
          exact ⟨h4 _ ih.2.1 ih.2.2 ih.1, hb _ ih.2.1 ih.2.2⟩
      rw [e]
      exact (all m).1
    · exact h2 y y0 y1 ((h.2 y y0 y1).2 ⟨j, m, j0, by omega, e⟩)
/-- Where all are marked nothing is counted. -/
theorem loopGo_full {f : Int → Int} : ∀ (d : Nat) (s : List Bool) (n i : Int), (∀ y : Int, i ≤ y → y < i + d → rdOf false s y = true) → loopGo f d s n i = n
  | 0, _, _, _, _ => rfl
  | d + 1, s, n, i, h => by
    rw [loopGo, if_pos (h i (by omega) (by omega))]
    exact loopGo_full d s n (i + 1) (fun y a b => h y (by omega) (by omega))
theorem loops_same {f g : Int → Int} {T S : Nat} (h : Step f g T S) : ∀ (d : Nat) (s t : List Bool) (n i : Int), i + d = S → 0 ≤ i → Seen f T i s → Seen g S i t → loopGo f (d + (T - S)) s n i = loopGo g d t n i
  | 0, s, t, n, i, hi, i0, hs, ht => by
    have hle := h.le
    rw [Nat.zero_add, show loopGo g 0 t n i = n from rfl]
    refine loopGo_full _ _ _ _ (fun y a b => ?_)
    have y1 : y < T := by omega
    have bd := h.bd y (by omega) y1
    obtain ⟨q, e⟩ := iter_back (T := T) h.bd h.inj (x := y) (by omega) y1 1
    exact (hs.2 y (by omega) y1).2 ⟨f y, q, bd.1, by have := h.two y (by omega) y1; omega, e.symm⟩
  | d + 1, s, t, n, i, hi, i0, hs, ht => by
    have hle := h.le
    have agree : rdOf false s i = true ↔ rdOf false t i = true := by
      rw [hs.2 i i0 (by omega), ht.2 i i0 (by omega)]
      constructor
      · rintro ⟨j, m, j0, j1, e⟩
        obtain ⟨q, e2⟩ := orbit_bwd h m m (Nat.le_refl _) (j := j) j0 (by omega) (by rw [← e]; omega)
        exact ⟨j, q, j0, j1, by rw [← e2, e]⟩
      · rintro ⟨j, m, j0, j1, e⟩
        obtain ⟨q, e2⟩ := orbit_fwd h m (j := j) j0 (by omega)
        exact ⟨j, q, j0, j1, by rw [← e2, e]⟩
    rw [show d + 1 + (T - S) = (d + (T - S)) + 1 from by omega, loopGo, loopGo]
    by_cases hx : rdOf false s i = true
    · rw [if_pos hx, if_pos (agree.1 hx)]
      exact loops_same h d s t n (i + 1) (by omega) (by omega) (hs.same i0 (by omega) hx) (ht.same i0 (by omega) (agree.1 hx))
    · rw [if_neg hx, if_neg (fun e => hx (agree.2 e))]
      exact loops_same h d _ _ (n + 1) (i + 1) (by omega) (by omega) (hs.next h.bd i0 (by omega)) (ht.next (fun x a b => h.bdg a b) i0 (by omega))
theorem seen_none (f : Int → Int) (T : Nat) : Seen f T 0 (List.replicate T false) := by
  refine ⟨by simp, fun y y0 y1 => ⟨fun h => ?_, fun ⟨j, m, j0, j1, _⟩ => by omega⟩⟩
  simp only [rdOf, List.getD_eq_getElem?_getD, List.getElem?_replicate] at h
  split at h <;> simp at h
theorem step_loops {f g : Int → Int} {T S : Int} (h : Step f g T S) : loopGo f T.toNat (List.replicate T.toNat false) 0 0 = loopGo g S.toNat (List.replicate S.toNat false) 0 0 := by
  have h0 := h.s0
  have h1 := h.le
  have hT : ((T.toNat : Nat) : Int) = T := by omega
  have hS : ((S.toNat : Nat) : Int) = S := by omega
  have h' : Step f g (T.toNat : Int) (S.toNat : Int) := by rw [hT, hS]; exact h
  have := loops_same h' S.toNat (List.replicate T.toNat false) (List.replicate S.toNat false) 0 0 (by omega) (by omega) (seen_none f _) (seen_none g _)
  rw [show S.toNat + (T.toNat - S.toNat) = T.toNat from by omega] at this
  exact this

theorem rd_set_same {a : List Int} {k v : Int} (k0 : 0 ≤ k) (k1 : k < a.length) : rd (a.set k.toNat v) k = v := by
  have : k.toNat < a.length := by omega
  simp [rd, List.getD, this]
theorem rd_set_ne {a : List Int} {k l v : Int} (k0 : 0 ≤ k) (l0 : 0 ≤ l) (h : l ≠ k) : rd (a.set k.toNat v) l = rd a l := by
  have : k.toNat ≠ l.toNat := by omega
  simp [rd, List.getD, List.getElem?_set_ne this]
theorem sumAt_set {a : List Int} {k v : Int} (k0 : 0 ≤ k) : ∀ p : List Int, (∀ x ∈ p, 0 ≤ x) → k ∉ p → sumAt (a.set k.toNat v) p = sumAt a p
  | [], _, _ => rfl
  | x :: p, h, hn => by
    rw [sumAt, sumAt, rd_set_ne k0 (h x (by simp)) (fun e => hn (by simp [e])), sumAt_set k0 p (fun y hy => h y (by simp [hy])) (fun hm => hn (by simp [hm]))]
theorem sumL_set : ∀ (a : List Int) (i : Nat) (v : Int), i < a.length → sumL (a.set i v) = sumL a - a.getD i 0 + v
  | [], _, _, h => absurd h (by simp)
  | x :: a, 0, v, _ => by simp [sumL]; omega
  | x :: a, i + 1, v, h => by
    have := sumL_set a i v (by simpa using h)
    simp [sumL] at this ⊢
    omega
/-- Two rows with the same parts. -/
theorem perm_move {p q : List Int} (hp : isPerm p) (h : p.Perm q) : isPerm q := by
  refine ⟨by rw [← h.length_eq]; exact hp.1, fun x hx => ?_, h.nodup_iff.1 hp.2.2⟩
  rw [← h.length_eq]
  exact hp.2.1 x (h.mem_iff.2 hx)
theorem perm_behind (p1 p2 : List Int) (A B : Int) : (p1 ++ A :: (p2 ++ [B])).Perm (p1 ++ A :: B :: p2) := by
  refine List.Perm.append_left p1 (List.Perm.cons A ?_)
  exact List.perm_append_singleton B p2
theorem set_len {a : List Int} (h : ∀ x ∈ a, 1 ≤ x ∧ x ≤ 60) (i : Nat) {v : Int} (v0 : 1 ≤ v) (v1 : v ≤ 60) : ∀ x ∈ a.set i v, 1 ≤ x ∧ x ≤ 60 := fun x hx => by
  rcases List.mem_or_eq_of_mem_set hx with hx | rfl
  · exact h x hx
  · exact ⟨v0, v1⟩
/-- The exchange behind a step that makes part k shorter. -/
theorem short_ok {a b c b' c' : List Int} (h : ExOk a b c) (hb : b.Perm b') (hc : c.Perm c') {k v : Int} (k0 : 0 ≤ k) (k1 : k < a.length) (v0 : 1 ≤ v) (v1 : v < rd a k) : ExOk (a.set k.toNat v) b' c' ∧ sumL (a.set k.toNat v) = sumL a - rd a k + v := by
  have hk : k.toNat < a.length := by omega
  have hr := rd_len h.la k0 k1
  have e : sumL (a.set k.toNat v) = sumL a - rd a k + v := sumL_set a k.toNat v hk
  refine ⟨⟨by simpa using h.n1, by rw [← hb.length_eq]; simpa using h.lb, by rw [← hc.length_eq]; simpa using h.lc, set_len h.la _ v0 (by omega), by have := h.su; omega, perm_move h.pb hb, perm_move h.pc hc⟩, e⟩
theorem exB_of {a b c : List Int} (h : ExOk a b c) : exB a b c = true := by
  unfold exB
  rw [decide_eq_true h.n1, decide_eq_true h.lb, decide_eq_true h.lc, (lensB_iff a).2 h.la, decide_eq_true h.su, (permB_iff b).2 h.pb, (permB_iff c).2 h.pc]
  rfl
/-- The last part of a row ends the row. -/
theorem last_start {a b c row pre : List Int} (h : ExOk a b c) (hp : isPerm row) (hl : row.length = a.length) {A : Int} (e : row = pre ++ [A]) : startAt a row A = sumL a - rd a A ∧ A ∉ pre := by
  have hn : A ∉ pre := by
    have := hp.2.2
    rw [e, List.nodup_append] at this
    exact fun hm => this.2.2 A hm A (by simp) rfl
  have hs := startAt_split a e hn
  have ht := sumAt_all hp hl
  rw [e, sumAt_append] at ht
  simp only [sumAt] at ht
  exact ⟨by omega, hn⟩
theorem nodup_mid {row p1 p2 : List Int} {A : Int} (hn : row.Nodup) (e : row = p1 ++ A :: p2) : A ∉ p1 ∧ A ∉ p2 := by
  rw [e, List.nodup_append] at hn
  exact ⟨fun hm => hn.2.2 A hm A (by simp) rfl, (List.nodup_cons.1 hn.2.1).1⟩
/-- The top's last part is the longer one: it loses the other's length, and the bottom's last part goes right behind it. -/
theorem rauzy_top {a b c pb p1 p2 : List Int} {A B : Int} (h : ExOk a b c) (eb : b = pb ++ [A]) (ec : c = p1 ++ A :: (p2 ++ [B])) (hAB : A ≠ B) (hlt : rd a B < rd a A) :
    ExOk (a.set A.toNat (rd a A - rd a B)) b (p1 ++ A :: B :: p2) ∧ sumL (a.set A.toNat (rd a A - rd a B)) = sumL a - rd a B ∧ Step (moveOf a b c) (moveOf (a.set A.toNat (rd a A - rd a B)) b (p1 ++ A :: B :: p2)) (sumL a) (sumL a - rd a B) := by
  have hrow := ex_rows h
  have hA := hrow.1 A (by rw [eb]; simp)
  have hB := hrow.2 B (by rw [ec]; simp)
  have rB := ex_nn h hB.1 hB.2
  have rA := ex_nn h hA.1 hA.2
  obtain ⟨h', hs⟩ := short_ok (b' := b) (c' := p1 ++ A :: B :: p2) h (List.Perm.refl b) (by rw [ec]; exact perm_behind p1 p2 A B) hA.1 hA.2 (v := rd a A - rd a B) (by omega) (by omega)
  obtain ⟨sA, nA⟩ := last_start h h.pb h.lb eb
  have ec2 : c = (p1 ++ A :: p2) ++ [B] := by rw [ec]; simp
  obtain ⟨sB, nB⟩ := last_start h h.pc h.lc ec2
  obtain ⟨nA1, nA2⟩ := nodup_mid h.pc.2.2 ec
  have hnn : ∀ {row pre suf : List Int}, (∀ k ∈ row, 0 ≤ k ∧ k < (a.length : Int)) → row = pre ++ suf → ∀ x ∈ pre, 0 ≤ x := fun hr e x hx => (hr x (by rw [e]; simp [hx])).1
  have cA : startAt a c A = sumAt a p1 := startAt_split a ec nA1
  have hT : 0 ≤ sumL a - rd a B := by have := (startAt_bd h.la h.pc h.lc hB.1 hB.2).1; omega
  -- the starts at the top
  have tops : ∀ k : Int, 0 ≤ k → k < a.length → startAt (a.set A.toNat (rd a A - rd a B)) b k = startAt a b k := by
    intro k k0 k1
    obtain ⟨pre, suf, e, n1, n2⟩ := row_split h.pb k0 (by have := h.lb; omega)
    rw [startAt_split _ e n1, startAt_split _ e n1]
    refine sumAt_set hA.1 pre (hnn hrow.1 e) ?_
    intro hm
    rcases nil_or_snoc suf with hs0 | ⟨q, z, hs0⟩
    · rw [hs0] at e
      have := e.symm.trans eb
      have e3 := List.append_inj' this rfl
      simp only [List.cons.injEq, and_true] at e3
      rw [e3.2] at n1
      exact n1 hm
    · rw [hs0] at e
      have e4 : pre ++ k :: (q ++ [z]) = (pre ++ k :: q) ++ [z] := by simp
      have := (e.trans e4).symm.trans eb
      have e3 := List.append_inj' this rfl
      exact nA (by rw [← e3.1]; simp [hm])
  -- the starts at the bottom
  have hc' := h'.pc
  have botA : startAt (a.set A.toNat (rd a A - rd a B)) (p1 ++ A :: B :: p2) A = startAt a c A := by
    rw [cA, startAt_split _ rfl nA1]
    exact sumAt_set hA.1 p1 (hnn hrow.2 ec) nA1
  have nB1 : B ∉ p1 ++ [A] := fun hm => nB (by
    rcases List.mem_append.1 hm with hm | hm
    · simp [hm]
    · simp at hm; simp [hm])
  have botB : startAt (a.set A.toNat (rd a A - rd a B)) (p1 ++ A :: B :: p2) B = startAt a c A + (rd a A - rd a B) := by
    have e5 : p1 ++ A :: B :: p2 = (p1 ++ [A]) ++ B :: p2 := by simp
    rw [startAt_split _ e5 nB1, sumAt_append, sumAt_set hA.1 p1 (hnn hrow.2 ec) nA1, cA]
    simp only [sumAt, rd_set_same hA.1 hA.2]
    omega
  have bots : ∀ k : Int, 0 ≤ k → k < a.length → k ≠ A → k ≠ B → startAt (a.set A.toNat (rd a A - rd a B)) (p1 ++ A :: B :: p2) k = startAt a c k := by
    intro k k0 k1 hkA hkB
    have hk : k ∈ c := ((few_perm c.length c (perm_few h.pc) rfl).mem_iff).2 ((mem_ups k _).2 ⟨k0, by have := h.lc; omega⟩)
    rw [ec] at hk
    rcases List.mem_append.1 hk with hm | hm
    · obtain ⟨q1, q2, e6⟩ := List.append_of_mem hm
      have e7 : c = q1 ++ k :: (q2 ++ A :: (p2 ++ [B])) := by rw [ec, e6]; simp
      have e8 : p1 ++ A :: B :: p2 = q1 ++ k :: (q2 ++ A :: B :: p2) := by rw [e6]; simp
      have n1 := (nodup_mid h.pc.2.2 e7).1
      rw [startAt_split _ e8 n1, startAt_split _ e7 n1]
      exact sumAt_set hA.1 q1 (hnn hrow.2 e7) (fun hm => nA1 (by rw [e6]; simp [hm]))
    · have hm2 : k ∈ p2 := by
        rcases List.mem_cons.1 hm with rfl | hm
        · exact absurd rfl hkA
        · rcases List.mem_append.1 hm with hm | hm
          · exact hm
          · simp at hm; exact absurd hm hkB
      obtain ⟨q1, q2, e6⟩ := List.append_of_mem hm2
      have e7 : c = (p1 ++ A :: q1) ++ k :: (q2 ++ [B]) := by rw [ec, e6]; simp
      have e8 : p1 ++ A :: B :: p2 = (p1 ++ A :: B :: q1) ++ k :: q2 := by rw [e6]; simp
      have n1 := (nodup_mid h.pc.2.2 e7).1
      have n2 : k ∉ p1 ++ A :: B :: q1 := fun hm => by
        simp only [List.mem_append, List.mem_cons] at hm n1
        rcases hm with hm | rfl | rfl | hm
        · exact n1 (.inl hm)
        · exact hkA rfl
        · exact hkB rfl
        · exact n1 (.inr (.inr hm))
      rw [startAt_split _ e8 n2, startAt_split _ e7 n1, sumAt_append, sumAt_append, sumAt_set hA.1 p1 (hnn hrow.2 ec) nA1]
      simp only [sumAt, rd_set_same hA.1 hA.2, rd_set_ne hA.1 hB.1 hAB.symm]
      rw [sumAt_set hA.1 q1 (fun x hx => (hrow.2 x (by rw [e7]; simp [hx])).1) (fun hm => nA2 (by rw [e6]; simp [hm]))]
      omega
  refine ⟨h', by omega, ?_⟩
  have below : ∀ k t : Int, 0 ≤ k → k < a.length → k ≠ B → t < rd a k → startAt a c k + t < sumL a - rd a B := fun k t k0 k1 hk ht => by
    rcases row_apart h h.pc h.lc k0 k1 hB.1 hB.2 hk with hd | hd
    · omega
    · have := startAt_bd h.la h.pc h.lc k0 k1
      have := ex_nn h k0 k1
      omega
  refine ⟨hT, by omega, fun x a0 a1 => moveOf_bd h a0 a1, fun x y a0 a1 b0 b1 e => move_inj h a0 a1 b0 b1 e, fun x x0 x1 => ?_, fun x x0 x1 => ?_⟩
  · obtain ⟨k, t, k0, k1, t0, t1, rfl⟩ := place_of h' x0 (by rw [hs]; omega)
    have k1' : k < a.length := by simpa using k1
    rw [move_at h' k0 k1 t0 t1, tops k k0 k1']
    by_cases hkA : k = A
    · subst hkA
      rw [rd_set_same hA.1 hA.2] at t1
      have hb := below k t k0 k1' hAB (by omega)
      rw [botA, move_at h k0 k1' t0 (by omega), if_pos hb]
    · rw [rd_set_ne hA.1 k0 hkA] at t1
      rw [move_at h k0 k1' t0 t1]
      by_cases hkB : k = B
      · subst hkB
        rw [botB, sB, if_neg (by omega), show sumL a - rd a k + t = startAt a b A + (rd a A - rd a k + t) from by rw [sA]; omega, move_at h hA.1 hA.2 (by omega) (by omega)]
        omega
      · rw [bots k k0 k1' hkA hkB, if_pos (below k t k0 k1' hkB t1)]
  · rw [show x = startAt a b A + (x - startAt a b A) from by omega, move_at h hA.1 hA.2 (by rw [sA]; omega) (by rw [sA]; omega)]
    exact below A _ hA.1 hA.2 hAB (by rw [sA]; omega)
/-- The bottom's last part is the longer one. -/
theorem rauzy_bottom {a b c pc q1 q2 : List Int} {A B : Int} (h : ExOk a b c) (eb : b = q1 ++ B :: (q2 ++ [A])) (ec : c = pc ++ [B]) (hAB : A ≠ B) (hlt : rd a A < rd a B) :
    ExOk (a.set B.toNat (rd a B - rd a A)) (q1 ++ B :: A :: q2) c ∧ sumL (a.set B.toNat (rd a B - rd a A)) = sumL a - rd a A ∧ Step (moveOf a b c) (moveOf (a.set B.toNat (rd a B - rd a A)) (q1 ++ B :: A :: q2) c) (sumL a) (sumL a - rd a A) := by
  have hrow := ex_rows h
  have hB := hrow.2 B (by rw [ec]; simp)
  have hA := hrow.1 A (by rw [eb]; simp)
  have rB := ex_nn h hB.1 hB.2
  have rA := ex_nn h hA.1 hA.2
  obtain ⟨h', hs⟩ := short_ok (b' := q1 ++ B :: A :: q2) (c' := c) h (by rw [eb]; exact perm_behind q1 q2 B A) (List.Perm.refl c) hB.1 hB.2 (v := rd a B - rd a A) (by omega) (by omega)
  obtain ⟨sB, nB⟩ := last_start h h.pc h.lc ec
  have eb2 : b = (q1 ++ B :: q2) ++ [A] := by rw [eb]; simp
  obtain ⟨sA, nA⟩ := last_start h h.pb h.lb eb2
  obtain ⟨nB1, nB2⟩ := nodup_mid h.pb.2.2 eb
  have hnn : ∀ {row pre suf : List Int}, (∀ k ∈ row, 0 ≤ k ∧ k < (a.length : Int)) → row = pre ++ suf → ∀ x ∈ pre, 0 ≤ x := fun hr e x hx => (hr x (by rw [e]; simp [hx])).1
  have tB : startAt a b B = sumAt a q1 := startAt_split a eb nB1
  have hT : 0 ≤ sumL a - rd a A := by have := (startAt_bd h.la h.pb h.lb hA.1 hA.2).1; omega
  have bots : ∀ k : Int, 0 ≤ k → k < a.length → startAt (a.set B.toNat (rd a B - rd a A)) c k = startAt a c k := by
    intro k k0 k1
    obtain ⟨pre, suf, e, n1, n2⟩ := row_split h.pc k0 (by have := h.lc; omega)
    rw [startAt_split _ e n1, startAt_split _ e n1]
    refine sumAt_set hB.1 pre (hnn hrow.2 e) ?_
    intro hm
    rcases nil_or_snoc suf with hs0 | ⟨q, z, hs0⟩
    · rw [hs0] at e
      have := e.symm.trans ec
      have e3 := List.append_inj' this rfl
      simp only [List.cons.injEq, and_true] at e3
      rw [e3.2] at n1
      exact n1 hm
    · rw [hs0] at e
      have e4 : pre ++ k :: (q ++ [z]) = (pre ++ k :: q) ++ [z] := by simp
      have := (e.trans e4).symm.trans ec
      have e3 := List.append_inj' this rfl
      exact nB (by rw [← e3.1]; simp [hm])
  have topB : startAt (a.set B.toNat (rd a B - rd a A)) (q1 ++ B :: A :: q2) B = startAt a b B := by
    rw [tB, startAt_split _ rfl nB1]
    exact sumAt_set hB.1 q1 (hnn hrow.1 eb) nB1
  have nA1 : A ∉ q1 ++ [B] := fun hm => nA (by
    rcases List.mem_append.1 hm with hm | hm
    · simp [hm]
    · simp at hm; simp [hm])
  have topA : startAt (a.set B.toNat (rd a B - rd a A)) (q1 ++ B :: A :: q2) A = startAt a b B + (rd a B - rd a A) := by
    have e5 : q1 ++ B :: A :: q2 = (q1 ++ [B]) ++ A :: q2 := by simp
    rw [startAt_split _ e5 nA1, sumAt_append, sumAt_set hB.1 q1 (hnn hrow.1 eb) nB1, tB]
    simp only [sumAt, rd_set_same hB.1 hB.2]
    omega
  have tops : ∀ k : Int, 0 ≤ k → k < a.length → k ≠ A → k ≠ B → startAt (a.set B.toNat (rd a B - rd a A)) (q1 ++ B :: A :: q2) k = startAt a b k := by
    intro k k0 k1 hkA hkB
    have hk : k ∈ b := ((few_perm b.length b (perm_few h.pb) rfl).mem_iff).2 ((mem_ups k _).2 ⟨k0, by have := h.lb; omega⟩)
    rw [eb] at hk
    rcases List.mem_append.1 hk with hm | hm
    · obtain ⟨r1, r2, e6⟩ := List.append_of_mem hm
      have e7 : b = r1 ++ k :: (r2 ++ B :: (q2 ++ [A])) := by rw [eb, e6]; simp
      have e8 : q1 ++ B :: A :: q2 = r1 ++ k :: (r2 ++ B :: A :: q2) := by rw [e6]; simp
      have n1 := (nodup_mid h.pb.2.2 e7).1
      rw [startAt_split _ e8 n1, startAt_split _ e7 n1]
      exact sumAt_set hB.1 r1 (hnn hrow.1 e7) (fun hm => nB1 (by rw [e6]; simp [hm]))
    · have hm2 : k ∈ q2 := by
        rcases List.mem_cons.1 hm with rfl | hm
        · exact absurd rfl hkB
        · rcases List.mem_append.1 hm with hm | hm
          · exact hm
          · simp at hm; exact absurd hm hkA
      obtain ⟨r1, r2, e6⟩ := List.append_of_mem hm2
      have e7 : b = (q1 ++ B :: r1) ++ k :: (r2 ++ [A]) := by rw [eb, e6]; simp
      have e8 : q1 ++ B :: A :: q2 = (q1 ++ B :: A :: r1) ++ k :: r2 := by rw [e6]; simp
      have n1 := (nodup_mid h.pb.2.2 e7).1
      have n2 : k ∉ q1 ++ B :: A :: r1 := fun hm => by
        simp only [List.mem_append, List.mem_cons] at hm n1
        rcases hm with hm | rfl | rfl | hm
        · exact n1 (.inl hm)
        · exact hkB rfl
        · exact hkA rfl
        · exact n1 (.inr (.inr hm))
      rw [startAt_split _ e8 n2, startAt_split _ e7 n1, sumAt_append, sumAt_append, sumAt_set hB.1 q1 (hnn hrow.1 eb) nB1]
      simp only [sumAt, rd_set_same hB.1 hB.2, rd_set_ne hB.1 hA.1 hAB]
      rw [sumAt_set hB.1 r1 (fun x hx => (hrow.1 x (by rw [e7]; simp [hx])).1) (fun hm => nB2 (by rw [e6]; simp [hm]))]
      omega
  refine ⟨h', by omega, ?_⟩
  have below : ∀ k t : Int, 0 ≤ k → k < a.length → k ≠ B → t < rd a k → startAt a c k + t < sumL a - rd a B := fun k t k0 k1 hk ht => by
    rcases row_apart h h.pc h.lc k0 k1 hB.1 hB.2 hk with hd | hd
    · omega
    · have := startAt_bd h.la h.pc h.lc k0 k1
      have := ex_nn h k0 k1
      omega
  refine ⟨hT, by omega, fun x a0 a1 => moveOf_bd h a0 a1, fun x y a0 a1 b0 b1 e => move_inj h a0 a1 b0 b1 e, fun x x0 x1 => ?_, fun x x0 x1 => ?_⟩
  · obtain ⟨k, t, k0, k1, t0, t1, rfl⟩ := place_of h' x0 (by rw [hs]; omega)
    have k1' : k < a.length := by simpa using k1
    rw [move_at h' k0 k1 t0 t1, bots k k0 k1']
    by_cases hkB : k = B
    · subst hkB
      rw [rd_set_same hB.1 hB.2] at t1
      rw [topB, move_at h k0 k1' t0 (by omega), if_pos (by omega)]
    · rw [rd_set_ne hB.1 k0 hkB] at t1
      by_cases hkA : k = A
      · subst hkA
        rw [topA, Int.add_assoc, move_at h hB.1 hB.2 (by omega) (by omega), sB, if_neg (by omega), show sumL a - rd a B + (rd a B - rd a k + t) = startAt a b k + t from by rw [sA]; omega, move_at h k0 k1' t0 t1]
      · have hb := below k t k0 k1' hkB t1
        rw [tops k k0 k1' hkA hkB, move_at h k0 k1' t0 t1, if_pos (by omega)]
  · rw [show x = startAt a b A + (x - startAt a b A) from by omega, move_at h hA.1 hA.2 (by rw [sA]; omega) (by rw [sA]; omega)]
    have := below A (x - startAt a b A) hA.1 hA.2 hAB (by rw [sA]; omega)
    omega

theorem copyInts_some (l : List Int) (h : l.length ≤ 100) : impl_copyInts.f l = some l := by
  unfold impl_copyInts.f
  simp only [Option.bind_some, List.length_nil, List.nil_append]
  rw [if_pos (by omega)]
theorem copyEx_some (a b c : List Int) (ha : a.length ≤ 100) (hb : b.length ≤ 100) (hc : c.length ≤ 100) : impl_copyExchange.f a b c = some (a, b, c) := by
  unfold impl_copyExchange.f
  simp only [copyInts_some a ha, copyInts_some b hb, copyInts_some c hc, Option.bind_some]
theorem index_l0 (row : List Int) (hl : row.length ≤ 100) (part : Int) (suf : List Int) : ∀ (mid pre : List Int), row = pre ++ (mid ++ part :: suf) → part ∉ mid → Ev (fun k => slices_Index_int_int.l0 k row part (row.length : Int) (pre.length : Int)) ((pre.length : Int) + mid.length)
  | [], pre, e, _ => by
    have hlt : pre.length < row.length := by rw [e]; simp
    have hr : rd row (pre.length : Int) = part := by rw [e]; exact rd_mid _ _ _
    refine ev_up ?_
    simp only [slices_Index_int_int.l0, if_pos (show (pre.length : Int) < row.length by omega), if_pos (Int.natCast_nonneg pre.length), hr, if_true, List.length_nil, Int.natCast_zero, Int.add_zero]
    exact Ev.now _
  | x :: mid, pre, e, hn => by
    have hlt : pre.length < row.length := by rw [e]; simp
    have hr : rd row (pre.length : Int) = x := by rw [e]; exact rd_mid _ _ _
    have hx : ¬ part = x := fun e => hn (by simp [e])
    have hi := index_l0 row hl part suf mid (pre ++ [x]) (by simp [e]) (fun hm => hn (by simp [hm]))
    have hw : wrap64 ((pre.length : Int) + 1) = ((pre ++ [x]).length : Int) := by rw [pw_wrap (by omega) (by omega)]; simp
    refine ev_up ?_
    simp only [slices_Index_int_int.l0, if_pos (show (pre.length : Int) < row.length by omega), if_pos (Int.natCast_nonneg pre.length), hr, if_neg hx, hw]
    have e2 : ((pre ++ [x]).length : Int) + mid.length = (pre.length : Int) + ((x :: mid).length : Int) := by simp; omega
    rw [← e2]
    exact hi
theorem rd_last (p : List Int) (x : Int) : rd (p ++ [x]) (p.length : Int) = x := rd_mid p [] x
theorem putBehind_ev {p1 p2 : List Int} {part last : Int} (hn : part ∉ p1) (hl : p1.length + p2.length ≤ 50) : Ev (fun k => impl_putBehind.f k (p1 ++ part :: (p2 ++ [last])) part) (p1 ++ part :: last :: p2) := by
  have e : p1 ++ part :: (p2 ++ [last]) = (p1 ++ part :: p2) ++ [last] := by simp
  rw [e]
  have hlen : (((p1 ++ part :: p2) ++ [last]).length : Int) = ((p1 ++ part :: p2).length : Int) + 1 := by rw [List.length_append]; rfl
  have hpl : (p1 ++ part :: p2).length = p1.length + p2.length + 1 := by simp; omega
  unfold impl_putBehind.f
  have hw : wrap64 ((((p1 ++ part :: p2) ++ [last]).length : Int) - 1) = ((p1 ++ part :: p2).length : Int) := by rw [hlen, pw_wrap (by omega) (by omega)]; omega
  have ht : ((p1 ++ part :: p2) ++ [last]).take (((p1 ++ part :: p2).length : Int)).toNat = p1 ++ part :: p2 := by rw [Int.toNat_natCast]; exact List.take_left' rfl
  simp only [hw, if_pos (Int.natCast_nonneg (p1 ++ part :: p2).length), if_pos (show ((p1 ++ part :: p2).length : Int) < (((p1 ++ part :: p2) ++ [last]).length : Int) by omega), if_pos (show ((p1 ++ part :: p2).length : Int) ≤ (((p1 ++ part :: p2) ++ [last]).length : Int) by omega), ht, rd_last, copyInts_some (p1 ++ part :: p2) (by omega), Option.bind_some]
  have hi := index_l0 (p1 ++ part :: p2) (by omega) part p2 p1 [] rfl hn
  simp only [List.length_nil, Int.natCast_zero, Int.zero_add] at hi
  unfold slices_Index_int_int.f
  refine Ev.bind hi ?_
  have hf : slices_Insert_int_int.f (p1 ++ part :: p2) (wrap64 ((p1.length : Int) + 1)) [last] = some (p1 ++ part :: last :: p2) := by
    rw [pw_wrap (by omega) (by omega)]
    unfold slices_Insert_int_int.f
    rw [if_pos ⟨by omega, by omega, by simp, by simp; omega⟩, show (((p1.length : Int) + 1)).toNat = p1.length + 1 from by omega]
    have e3 : p1 ++ part :: p2 = (p1 ++ [part]) ++ p2 := by simp
    rw [e3, List.take_left' (by simp), List.drop_left' (by simp)]
    simp
  simp only [hf, Option.bind_some]
  exact Ev.now _
theorem once_stop (A B : Int) (a b c : List Int) : Ev (fun k => impl_InduceOnce.j0 k A B true a b c) ([], [], [], false) := by
  refine ev_up ?_
  simp only [impl_InduceOnce.j0, if_true]
  exact Ev.now _
/-- The head of a step: the last parts, and whether there is a step. -/
theorem once_head {a b c pb pc : List Int} {A B : Int} (he : exB a b c = true) (eb : b = pb ++ [A]) (ec : c = pc ++ [B]) {r : List Int × List Int × List Int × Bool} (h : Ev (fun k => impl_InduceOnce.j0 k A B (decide (A = B ∨ rd a A = rd a B)) a b c) r) : Ev (fun k => impl_InduceOnce.f k a b c) r := by
  have hx := exOk_of he
  have hrow := ex_rows hx
  have hA := hrow.1 A (by rw [eb]; simp)
  have hB := hrow.2 B (by rw [ec]; simp)
  have hlb := hx.lb
  have hlc := hx.lc
  have hn := hx.n1
  have lb : b.length = pb.length + 1 := by rw [eb]; simp
  have lc : c.length = pc.length + 1 := by rw [ec]; simp
  have rb : rd b (pb.length : Int) = A := by rw [eb]; exact rd_last _ _
  have rc : rd c (pb.length : Int) = B := by rw [show pb.length = pc.length from by omega, ec]; exact rd_last _ _
  have hw : wrap64 ((b.length : Int) - 1) = (pb.length : Int) := by rw [pw_wrap (by omega) (by omega)]; omega
  unfold impl_InduceOnce.f
  refine Ev.bind (impl_exOk a b c) ?_
  simp only [he, if_true, hw, if_pos (Int.natCast_nonneg pb.length), if_pos (show (pb.length : Int) < b.length by omega), if_pos (show (pb.length : Int) < c.length by omega), rb, rc, if_pos hA.1, if_pos hA.2, if_pos hB.1, if_pos hB.2]
  by_cases hAB : A = B
  · simp only [if_pos hAB]
    rw [decide_eq_true (.inl hAB)] at h
    exact h
  · simp only [if_neg hAB]
    have e : (rd a A == rd a B) = decide (A = B ∨ rd a A = rd a B) := by
      rw [Bool.eq_iff_iff]
      simp [hAB]
    rw [e]
    exact h
theorem once_top {a b c pb p1 p2 : List Int} {A B : Int} (he : exB a b c = true) (eb : b = pb ++ [A]) (ec : c = p1 ++ A :: (p2 ++ [B])) (hn : A ∉ p1) (hAB : A ≠ B) (hlt : rd a B < rd a A) : Ev (fun k => impl_InduceOnce.f k a b c) (a.set A.toNat (rd a A - rd a B), b, p1 ++ A :: B :: p2, true) := by
  have hx := exOk_of he
  have hrow := ex_rows hx
  have hA := hrow.1 A (by rw [eb]; simp)
  have hB := hrow.2 B (by rw [ec]; simp)
  have hn1 := hx.n1
  have hlb := hx.lb
  have hlc := hx.lc
  have rA := rd_len hx.la hA.1 hA.2
  have rB := rd_len hx.la hB.1 hB.2
  have hl : c.length = p1.length + p2.length + 2 := by rw [ec]; simp; omega
  refine once_head (pb := pb) (A := A) (pc := p1 ++ A :: p2) (B := B) he eb (by rw [ec]; simp) ?_
  rw [decide_eq_false (show ¬ (A = B ∨ rd a A = rd a B) from fun e => e.elim hAB (by omega))]
  refine ev_up ?_
  simp only [impl_InduceOnce.j0, Bool.false_eq_true, if_false, copyEx_some a b c (by omega) (by omega) (by omega), Option.bind_some, if_pos hA.1, if_pos hA.2, if_pos hB.1, if_pos hB.2, if_pos (show rd a A > rd a B from hlt), pw_wrap (a := rd a A - rd a B) (by omega) (by omega)]
  have hp := putBehind_ev (p1 := p1) (p2 := p2) (part := A) (last := B) hn (by omega)
  rw [← ec] at hp
  exact Ev.bind hp (Ev.now _)
theorem once_bottom {a b c pc q1 q2 : List Int} {A B : Int} (he : exB a b c = true) (eb : b = q1 ++ B :: (q2 ++ [A])) (ec : c = pc ++ [B]) (hn : B ∉ q1) (hAB : A ≠ B) (hlt : rd a A < rd a B) : Ev (fun k => impl_InduceOnce.f k a b c) (a.set B.toNat (rd a B - rd a A), q1 ++ B :: A :: q2, c, true) := by
  have hx := exOk_of he
  have hrow := ex_rows hx
  have hA := hrow.1 A (by rw [eb]; simp)
  have hB := hrow.2 B (by rw [ec]; simp)
  have hn1 := hx.n1
  have hlb := hx.lb
  have hlc := hx.lc
  have rA := rd_len hx.la hA.1 hA.2
  have rB := rd_len hx.la hB.1 hB.2
  have hl : b.length = q1.length + q2.length + 2 := by rw [eb]; simp; omega
  refine once_head (pb := q1 ++ B :: q2) (A := A) (pc := pc) (B := B) he (by rw [eb]; simp) ec ?_
  rw [decide_eq_false (show ¬ (A = B ∨ rd a A = rd a B) from fun e => e.elim hAB (by omega))]
  refine ev_up ?_
  simp only [impl_InduceOnce.j0, Bool.false_eq_true, if_false, copyEx_some a b c (by omega) (by omega) (by omega), Option.bind_some, if_pos hA.1, if_pos hA.2, if_pos hB.1, if_pos hB.2, if_neg (show ¬ rd a A > rd a B by omega), pw_wrap (a := rd a B - rd a A) (by omega) (by omega)]
  have hp := putBehind_ev (p1 := q1) (p2 := q2) (part := B) (last := A) hn (by omega)
  rw [← eb] at hp
  exact Ev.bind hp (Ev.now _)
theorem loops_of_step {a b c a' b' c' : List Int} (he : exB a b c = true) (he' : exB a' b' c' = true) (h : Step (moveOf a b c) (moveOf a' b' c') (sumL a) (sumL a')) : loopsOf a' b' c' = loopsOf a b c := by
  unfold loopsOf
  rw [if_pos he, if_pos he', step_loops h]
theorem snoc_of {p : List Int} (h : 1 ≤ p.length) : ∃ q x, p = q ++ [x] := by
  rcases nil_or_snoc p with rfl | h2
  · simp at h
  · exact h2
theorem mid_split {c pc : List Int} {A B : Int} (hc : isPerm c) (ec : c = pc ++ [B]) (hA : A ∈ c) (hAB : A ≠ B) : ∃ p1 p2, c = p1 ++ A :: (p2 ++ [B]) ∧ A ∉ p1 := by
  rw [ec] at hA
  have hm : A ∈ pc := by
    rcases List.mem_append.1 hA with hm | hm
    · exact hm
    · simp at hm; exact absurd hm hAB
  obtain ⟨p1, p2, e⟩ := List.append_of_mem hm
  have e2 : c = p1 ++ A :: (p2 ++ [B]) := by rw [ec, e]; simp
  exact ⟨p1, p2, e2, (nodup_mid hc.2.2 e2).1⟩
theorem mem_perm {p : List Int} (hp : isPerm p) {k : Int} (h0 : 0 ≤ k) (h1 : k < p.length) : k ∈ p := ((few_perm p.length p (perm_few hp) rfl).mem_iff).2 ((mem_ups k _).2 ⟨h0, h1⟩)
/-- There is no step, or one that keeps the loops and makes the whole shorter. -/
theorem induce_step {a b c : List Int} (he : exB a b c = true) : Ev (fun k => impl_InduceOnce.f k a b c) ([], [], [], false) ∨
    ∃ a' b' c', Ev (fun k => impl_InduceOnce.f k a b c) (a', b', c', true) ∧ exB a' b' c' = true ∧ sumL a' < sumL a ∧ loopsOf a' b' c' = loopsOf a b c := by
  have hx := exOk_of he
  have hrow := ex_rows hx
  have hn1 := hx.n1
  have hlb := hx.lb
  have hlc := hx.lc
  obtain ⟨pb, A, eb⟩ := snoc_of (p := b) (by omega)
  obtain ⟨pc, B, ec⟩ := snoc_of (p := c) (by omega)
  have hA := hrow.1 A (by rw [eb]; simp)
  have hB := hrow.2 B (by rw [ec]; simp)
  have rA := ex_nn hx hA.1 hA.2
  have rB := ex_nn hx hB.1 hB.2
  by_cases hs : A = B ∨ rd a A = rd a B
  · left
    refine once_head he eb ec ?_
    rw [decide_eq_true hs]
    exact once_stop _ _ _ _ _
  · right
    have hAB : A ≠ B := fun e => hs (.inl e)
    by_cases hlt : rd a B < rd a A
    · obtain ⟨p1, p2, e2, hn⟩ := mid_split hx.pc ec (mem_perm hx.pc hA.1 (by omega)) hAB
      obtain ⟨h1, h2, h3⟩ := rauzy_top hx eb e2 hAB hlt
      have he' := exB_of h1
      rw [← h2] at h3
      exact ⟨_, _, _, once_top he eb e2 hn hAB hlt, he', by omega, loops_of_step he he' h3⟩
    · obtain ⟨q1, q2, e2, hn⟩ := mid_split hx.pb eb (mem_perm hx.pb hB.1 (by omega)) hAB.symm
      obtain ⟨h1, h2, h3⟩ := rauzy_bottom hx e2 ec hAB (by omega)
      have he' := exB_of h1
      rw [← h2] at h3
      exact ⟨_, _, _, once_bottom he e2 ec hn hAB (by omega), he', by omega, loops_of_step he he' h3⟩
theorem sumL_pos {a b c : List Int} (he : exB a b c = true) : 1 ≤ sumL a ∧ sumL a ≤ 60 := by
  have hx := exOk_of he
  have h1 := sumL_bd a hx.la
  have h2 := hx.su
  have h3 := hx.n1
  omega
/-- Induction comes to an end, and keeps the loops. -/
theorem induce_all : ∀ (N : Nat) (a b c : List Int) (n : Int), exB a b c = true → sumL a ≤ N → 0 ≤ n → n + N ≤ 10000 →
    ∃ a' b' c' s, Ev (fun k => impl_InduceAll.l0 k n a b c) (a', b', c', n + s, true) ∧ 0 ≤ s ∧ s < sumL a ∧ exB a' b' c' = true ∧ loopsOf a' b' c' = loopsOf a b c ∧ Ev (fun k => impl_InduceOnce.f k a' b' c') ([], [], [], false) ∧
      ((s = 0 ∧ Ev (fun k => impl_InduceOnce.f k a b c) ([], [], [], false)) ∨ (0 < s ∧ ∃ x y z, Ev (fun k => impl_InduceOnce.f k a b c) (x, y, z, true) ∧ exB x y z = true ∧ sumL x < sumL a ∧ loopsOf x y z = loopsOf a b c))
  | 0, a, b, c, n, he, hN, _, _ => by have := sumL_pos he; omega
  | N + 1, a, b, c, n, he, hN, n0, n1 => by
    have hp := sumL_pos he
    rcases induce_step he with hstop | ⟨x, y, z, ho, hex, hlt, hloop⟩
    · refine ⟨a, b, c, 0, ev_up ?_, by omega, by omega, he, rfl, hstop, .inl ⟨rfl, hstop⟩⟩
      simp only [impl_InduceAll.l0, Int.add_zero]
      refine Ev.bind hstop ?_
      simp only [Bool.false_eq_true, if_false]
      exact Ev.now _
    · obtain ⟨a', b', c', s, h1, h2, h3, h4, h5, h6, _⟩ := induce_all N x y z (n + 1) hex (by omega) (by omega) (by omega)
      refine ⟨a', b', c', s + 1, ev_up ?_, by omega, by omega, h4, by rw [h5, hloop], h6, .inr ⟨by omega, x, y, z, ho, hex, hlt, hloop⟩⟩
      simp only [impl_InduceAll.l0, pw_wrap (a := n + 1) (by omega) (by omega)]
      refine Ev.bind ho ?_
      simp only [if_true]
      rw [show n + (s + 1) = n + 1 + s from by omega]
      exact h1
theorem impl_induceAll {a b c : List Int} (he : exB a b c = true) {r : List Int × List Int × List Int × Int × Bool} (h : Ev (fun k => impl_InduceAll.l0 k 0 a b c) r) : Ev (fun k => impl_InduceAll.f k a b c) r := by
  have hx := exOk_of he
  have hn1 := hx.n1
  have hlb := hx.lb
  have hlc := hx.lc
  unfold impl_InduceAll.f
  refine Ev.bind (impl_exOk a b c) ?_
  simp only [he, if_true, copyEx_some a b c (by omega) (by omega) (by omega), Option.bind_some]
  exact h

theorem loop_eq (b : ByteArray) : ∀ (d i : Nat) (r : List UInt8), b.size - i = d → ByteArray.toList.loop b i r = r.reverse ++ b.data.toList.drop i
  | 0, i, r, h => by
    rw [ByteArray.toList.loop, if_neg (by omega), List.drop_eq_nil_of_le (by have e : b.data.toList.length = b.size := rfl; omega)]
    simp
  | d + 1, i, r, h => by
    have hi : i < b.data.toList.length := by have e : b.data.toList.length = b.size := rfl; omega
    rw [ByteArray.toList.loop, if_pos (by omega), loop_eq b d (i + 1) _ (by omega), List.drop_eq_getElem_cons hi]
    have e : b.get! i = b.data.toList[i] := by
      have h2 : i < b.data.size := by simpa using hi
      show b.data[i]! = _
      rw [getElem!_pos b.data i h2]
      simp
    rw [e]
    simp
theorem toList_eq (b : ByteArray) : b.toList = b.data.toList := by
  unfold ByteArray.toList
  rw [loop_eq b b.size 0 [] (by omega)]
  simp
theorem toList_ne {b : ByteArray} (h : 0 < b.size) : b.toList ≠ [] := by
  rw [toList_eq]
  intro e
  have e2 : b.data.toList.length = b.size := rfl
  have e3 := congrArg List.length e
  simp only [List.length_nil] at e3
  omega

theorem laws_has_l0 (l : List Int) (hl : l.length ≤ 1000000) (x : Int) (hx : x ∉ l) : ∀ (suf pre : List Int), l = pre ++ suf → Ev (fun k => laws_has.l0 k x l (l.length : Int) (pre.length : Int)) false
  | [], pre, e => by
    have e2 : l = pre := by simpa using e
    refine ev_up ?_
    rw [e2]
    simp only [laws_has.l0, if_neg (show ¬ (pre.length : Int) < pre.length by omega)]
    exact Ev.now _
  | y :: suf, pre, e => by
    have hlt : pre.length < l.length := by rw [e]; simp
    have hr : rd l (pre.length : Int) = y := by rw [e]; exact rd_mid _ _ _
    have hw : wrap64 ((pre.length : Int) + 1) = ((pre ++ [y]).length : Int) := by rw [pw_wrap (by omega) (by omega)]; simp
    refine ev_up ?_
    simp only [laws_has.l0, if_pos (show (pre.length : Int) < l.length by omega), if_pos (Int.natCast_nonneg pre.length), hr, if_neg (show ¬ y = x from fun h => hx (by rw [e, ← h]; simp)), hw]
    exact laws_has_l0 l hl x hx suf (pre ++ [y]) (by simp [e])
theorem laws_has_no (l : List Int) (hl : l.length ≤ 1000000) (x : Int) (hx : x ∉ l) : Ev (fun k => laws_has.f k l x) false := laws_has_l0 l hl x hx l [] rfl
theorem loops_one {a b c : List Int} (he : exB a b c = true) : 1 ≤ loopsOf a b c := by
  have hp := sumL_pos he
  unfold loopsOf
  rw [if_pos he]
  obtain ⟨d, hd⟩ : ∃ d, (sumL a).toNat = d + 1 := ⟨(sumL a).toNat - 1, by omega⟩
  rw [hd, loopGo, if_neg (by simp [rdOf, List.replicate_succ])]
  have := loopGo_bd (moveOf a b c) d (walkV (moveOf a b c) ((List.replicate (d + 1) false).length + 1) (List.replicate (d + 1) false) 0) (0 + 1) (0 + 1)
  omega
theorem exT_ne {a b c : List Int} (he : exB a b c = true) : ((exT a b c).toList == ([] : List UInt8)) = false := by
  rw [beq_eq_false_iff_ne]
  refine toList_ne ?_
  unfold exT
  rw [if_pos he]
  have e7 : (⟨#[32, 108, 111, 111, 112, 115, 32]⟩ : ByteArray).size = 7 := rfl
  simp only [ByteArray.size_append, e7]
  omega
theorem exch_end {a b c : List Int} (he : exB a b c = true) (seen : List Int) : Ev (fun k => laws_FnExchanges.l0 k (sumL a) seen (sumL a) a b c) true := by
  have hp := sumL_pos he
  have h1 := loops_one he
  obtain ⟨a', b', c', s, hall, s0, s1, he', hl', hstop, hfirst⟩ := induce_all 60 a b c 0 he (by omega) (by omega) (by omega)
  rw [Int.zero_add] at hall
  have hj : ∀ (ok : Bool) (x y z : List Int), (ok = true → exB x y z = true ∧ sumL x < sumL a ∧ loopsOf x y z = loopsOf a b c) → Ev (fun k => laws_FnExchanges.j2 k (sumL a) (loopsOf a b c) ok false x y z a' b' c') true := by
    intro ok x y z hok
    refine ev_up ?_
    simp only [laws_FnExchanges.j2, Bool.false_eq_true, if_false]
    refine Ev.bind hstop ?_
    simp only [Bool.false_eq_true, if_false]
    cases ok with
    | false => simp only [Bool.false_eq_true, if_false]; exact Ev.now _
    | true =>
      obtain ⟨o1, o2, o3⟩ := hok rfl
      simp only [if_true]
      refine Ev.bind (impl_loops x y z) ?_
      simp only [o3, if_true]
      refine Ev.bind (impl_total x y z) ?_
      rw [totalOf, if_pos o1]
      simp only [decide_eq_true o2]
      exact Ev.now _
  have hall2 := impl_induceAll he hall
  have go : ∀ (ok : Bool) (x y z : List Int), Ev (fun k => impl_InduceOnce.f k a b c) (x, y, z, ok) → ok = decide (s > 0) → (ok = true → exB x y z = true ∧ sumL x < sumL a ∧ loopsOf x y z = loopsOf a b c) → Ev (fun k => laws_FnExchanges.l0 k (sumL a) seen (sumL a) a b c) true := by
    intro ok x y z ho hs hok
    refine ev_up ?_
    simp only [laws_FnExchanges.l0, if_neg (show ¬ sumL a < sumL a by omega)]
    refine Ev.bind (impl_loops a b c) ?_
    refine Ev.bind ho ?_
    refine Ev.bind hall2 ?_
    simp only [if_neg (show ¬ loopsOf a b c < 1 by omega), if_true, hs, bne_self_eq_false, Bool.false_eq_true, if_false, if_neg (show ¬ s < 0 by omega), if_neg (show ¬ s > sumL a by omega)]
    refine Ev.bind (impl_loops a' b' c') ?_
    simp only [hl', if_true]
    refine Ev.bind (impl_movePlace a b c (sumL a)) ?_
    rw [movePlaceOf, if_neg (show ¬ (exB a b c = true ∧ 0 ≤ sumL a ∧ sumL a < sumL a) from fun h => by omega)]
    simp only [if_true]
    refine Ev.bind (impl_exline a b c) ?_
    simp only [exT_ne he]
    rw [← hs]
    exact hj ok x y z hok
  rcases hfirst with ⟨z, ho⟩ | ⟨z, x, y, w, ho, o1, o2, o3⟩
  · exact go false [] [] [] ho (decide_eq_false (by omega)).symm (fun h => by cases h)
  · exact go true x y w ho (decide_eq_true (by omega)).symm (fun _ => ⟨o1, o2, o3⟩)
theorem exch_l0 {a b c : List Int} (he : exB a b c = true) : ∀ (d : Nat) (x : Int) (seen : List Int), 0 ≤ x → x + d = sumL a → (seen.length : Int) = x → (∀ y ∈ seen, ∃ j, 0 ≤ j ∧ j < x ∧ y = moveOf a b c j) → Ev (fun k => laws_FnExchanges.l0 k (sumL a) seen x a b c) true
  | 0, x, seen, x0, hd, _, _ => by
    rw [show x = sumL a from by omega]
    exact exch_end he seen
  | d + 1, x, seen, x0, hd, hl, hs => by
    have hx := exOk_of he
    have hp := sumL_pos he
    have hb := moveOf_bd hx x0 (show x < sumL a by omega)
    have hn : moveOf a b c x ∉ seen := fun hm => by
      obtain ⟨j, j0, j1, e⟩ := hs _ hm
      have := move_inj hx x0 (by omega) j0 (by omega) e
      omega
    refine ev_up ?_
    simp only [laws_FnExchanges.l0, if_pos (show x < sumL a by omega)]
    refine Ev.bind (impl_movePlace a b c x) ?_
    rw [movePlaceOf, if_pos (show exB a b c = true ∧ 0 ≤ x ∧ x < sumL a from ⟨he, x0, by omega⟩)]
    simp only [if_neg (show ¬ moveOf a b c x < 0 by omega), if_neg (show ¬ moveOf a b c x ≥ sumL a by omega)]
    refine Ev.bind (laws_has_no seen (by omega) _ hn) ?_
    simp only [Bool.false_eq_true, if_false, if_pos (show seen.length < 17592186044416 by omega), pw_wrap (a := x + 1) (by omega) (by omega)]
    exact exch_l0 he d (x + 1) (seen ++ [moveOf a b c x]) (by omega) (by omega) (by simp; omega) (fun y hy => by
      rcases List.mem_append.1 hy with hy | hy
      · obtain ⟨j, j0, j1, e⟩ := hs y hy
        exact ⟨j, j0, by omega, e⟩
      · simp at hy
        exact ⟨x, x0, by omega, hy⟩)
theorem FnExchanges : laws_FnExchanges.Pure := by
  intro l hl _
  apply Ev.rounds
  unfold laws_FnExchanges.f
  by_cases hlen : (l.length : Int) > 1048576
  · simp only [if_pos hlen]
    exact Ev.now _
  · simp only [if_neg hlen]
    obtain ⟨a, b, c, hm, hx⟩ := exch_some l (by omega)
    have he := exB_of hx
    have hp := sumL_pos he
    refine Ev.bind hm ?_
    refine Ev.bind (impl_total a b c) ?_
    refine Ev.bind (impl_exOk a b c) ?_
    rw [totalOf, if_pos he]
    simp only [he, if_true, if_neg (show ¬ sumL a < 1 by omega), decide_eq_false (show ¬ sumL a > 60 by omega)]
    refine ev_up ?_
    simp only [laws_FnExchanges.j0, Bool.false_eq_true, if_false]
    exact exch_l0 he (sumL a).toNat 0 [] (by omega) (by omega) rfl (fun y hy => by simp at hy)

end Go.Proofs.YtbolkipmehmncaaDoor.Pure
