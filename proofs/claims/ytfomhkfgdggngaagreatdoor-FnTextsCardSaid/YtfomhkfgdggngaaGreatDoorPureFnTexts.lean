/- Surfaces and tables are recovered from their text: no condition. -/
import Derived.Test.YtfomhkfgdggngaaGreatDoorSayFnTexts
namespace Go.Proofs.YtfomhkfgdggngaaGreatDoor.Pure
open Go.RowKit Go.Proofs.YtfomhkfgdggngaaGreatDoor.S Go.Proofs.YtfomhkfgdggngaaGreatDoorW.PrintWords Go.Proofs.YtfomhkfgdggngaaGreatDoorW.PrintLast
set_option linter.unusedVariables false
set_option linter.unusedSimpArgs false

theorem ev_up {α : Type} {g : Nat → Option α} {r : α} (h : Ev (fun k => g (k + 1)) r) : Ev g r := Ev.step (fun _ => rfl) h
theorem pw_wrap {a : Int} (h0 : -9223372036854775808 ≤ a) (h1 : a ≤ 9223372036854775807) : wrap64 a = a := by
  unfold wrap64
  omega

theorem and255 (x : Int) : 0 ≤ Go.bits .and .i64 x 255 ∧ Go.bits .and .i64 x 255 ≤ 255 := by
  have h : (BitVec.ofInt 64 x &&& BitVec.ofInt 64 255).toNat ≤ 255 := by
    rw [BitVec.toNat_and]
    exact Nat.le_trans Nat.and_le_right (by decide)
  show 0 ≤ IntKind.i64.wrap ((BitVec.ofInt 64 x &&& BitVec.ofInt 64 255).toNat : Int) ∧ IntKind.i64.wrap ((BitVec.ofInt 64 x &&& BitVec.ofInt 64 255).toNat : Int) ≤ 255
  generalize (BitVec.ofInt 64 x &&& BitVec.ofInt 64 255).toNat = n at *
  rw [IntKind.wrap_i64]
  omega
theorem byte_some (l : List Int) (hl : l.length ≤ 4611686018427387904) (i h : Int) (hi : 0 ≤ i) : ∃ v i' h', spec_l01Byte.f l i h = some (v, i', h') ∧ 0 ≤ v ∧ v ≤ 255 ∧ 0 ≤ i' := by
  unfold spec_l01Byte.f
  by_cases h1 : i < (l.length : Int)
  · simp only [if_pos h1, if_pos hi]
    exact ⟨_, _, _, rfl, (and255 _).1, (and255 _).2, by rw [pw_wrap (by omega) (by omega)]; omega⟩
  · simp only [if_neg h1]
    exact ⟨_, _, _, rfl, (and255 _).1, (and255 _).2, hi⟩
theorem below_some (l : List Int) (hl : l.length ≤ 4611686018427387904) (i h : Int) (hi : 0 ≤ i) (n : Int) (h1 : 1 ≤ n) (h2 : n ≤ 256) : ∃ v i' h', spec_l01Below.f l i h n = some (v, i', h') ∧ 0 ≤ v ∧ v < n ∧ 0 ≤ i' := by
  obtain ⟨v, i', h', e, v0, v1, hi'⟩ := byte_some l hl i h hi
  unfold spec_l01Below.f
  simp only [if_neg (show ¬ n ≤ 0 by omega), if_pos h2, e, Option.bind_some, if_neg (show ¬ n = 0 by omega)]
  refine ⟨_, _, _, rfl, ?_, ?_, hi'⟩
  · exact Int.tmod_nonneg _ v0
  · rw [Int.tmod_eq_emod_of_nonneg v0]
    exact Int.emod_lt_of_pos _ (by omega)
theorem new_l0 (l : List Int) (hl : l.length ≤ 4611686018427387904) : ∀ (d : Nat) (x i : Int), 0 ≤ i → i + d = 4000 → ∃ h, Ev (fun k => spec_l01New.l0 k l x i) (l, 0, h)
  | 0, x, i, h0, h1 => by
    by_cases h : i < (l.length : Int)
    · refine ⟨x, ev_up ?_⟩
      simp only [spec_l01New.l0, if_pos h, if_neg (show ¬ i < 4000 by omega)]
      exact Ev.now _
    · refine ⟨x, ev_up ?_⟩
      simp only [spec_l01New.l0, if_neg h]
      exact Ev.now _
  | d + 1, x, i, h0, h1 => by
    by_cases h : i < (l.length : Int)
    · obtain ⟨r, hr⟩ := new_l0 l hl d (Go.bits .and .i64 (wrap64 ((wrap64 ((wrap64 (x * 109)) + (wrap64 (rd l i)))) + 7)) 1073741823) (i + 1) (by omega) (by omega)
      refine ⟨r, ev_up ?_⟩
      simp only [spec_l01New.l0, if_pos h, if_pos (show i < 4000 by omega), if_pos h0, pw_wrap (a := i + 1) (by omega) (by omega)]
      exact hr
    · refine ⟨x, ev_up ?_⟩
      simp only [spec_l01New.l0, if_neg h]
      exact Ev.now _
theorem new_some (l : List Int) (hl : l.length ≤ 4611686018427387904) : ∃ h, Ev (fun k => spec_l01New.f k l) (l, 0, h) := by
  unfold spec_l01New.f
  exact new_l0 l hl 4000 _ 0 (by omega) (by omega)
/-- A permutation of at most 24 elements. -/
def isPerm (p : List Int) : Prop := p.length ≤ 24 ∧ (∀ x ∈ p, 0 ≤ x ∧ x < (p.length : Int)) ∧ p.Nodup
theorem perm_go (n : Nat) (hn : n ≤ 24) : ∀ (p pre : List Int) (seen : List Bool), seen.length = 24 → (∀ x : Int, 0 ≤ x → x < n → (seen.getD x.toNat false = true ↔ x ∈ pre)) →
    permGo n p seen = permSGo n pre p := by
  intro p
  induction p with
  | nil => intro pre seen _ _; rfl
  | cons x p ih =>
    intro pre seen hl hs
    simp only [permGo, permSGo]
    by_cases h0 : x < 0
    · rw [if_pos h0, if_neg (by omega)]
    · rw [if_neg h0]
      by_cases h1 : (n : Int) ≤ x
      · rw [if_pos h1, if_neg (by omega)]
      · rw [if_neg h1, if_pos (show 0 ≤ x ∧ x ≤ (n : Int) - 1 by omega)]
        have hx := hs x (by omega) (by omega)
        by_cases h2 : x ∈ pre
        · rw [if_pos (hx.2 h2), if_pos h2]
        · rw [if_neg (fun h => h2 (hx.1 h)), if_neg h2]
          refine ih _ _ (by simpa using hl) (fun y hy0 hy1 => ?_)
          by_cases hxy : x = y
          · subst hxy
            have : x.toNat < seen.length := by omega
            simp [List.getD, this]
          · have hne : x.toNat ≠ y.toNat := by omega
            have := hs y hy0 hy1
            simp only [List.getD, List.getElem?_set_ne hne]
            rw [List.getD] at this
            rw [this]
            simp [Ne.symm hxy]
theorem perm_same (p : List Int) : permB p = permSB p := by
  unfold permB permSB
  by_cases h : p.length ≤ 24
  · rw [if_pos h, if_pos h]
    refine perm_go p.length h p [] no24 rfl (fun x h0 h1 => ?_)
    have : no24.getD x.toNat false = false := by
      unfold no24
      simp only [List.getD, List.getElem?_replicate]
      split <;> rfl
    rw [this]
    simp
  · rw [if_neg h, if_neg h]
theorem permS_iff (n : Nat) : ∀ (p pre : List Int), permSGo n pre p = true ↔ ((∀ x ∈ p, 0 ≤ x ∧ x < (n : Int)) ∧ (∀ x ∈ p, x ∉ pre) ∧ p.Nodup)
  | [], pre => by simp [permSGo]
  | x :: p, pre => by
    simp only [permSGo]
    by_cases h : 0 ≤ x ∧ x ≤ (n : Int) - 1
    · rw [if_pos h]
      by_cases h2 : x ∈ pre
      · rw [if_pos h2]
        simp [h2]
      · rw [if_neg h2, permS_iff n p (pre ++ [x])]
        simp only [List.mem_cons, forall_eq_or_imp, List.nodup_cons]
        constructor
        · rintro ⟨h3, h4, h5⟩
          exact ⟨⟨by omega, h3⟩, ⟨h2, fun y hy hp => h4 y hy (List.mem_append.2 (.inl hp))⟩, fun hx => h4 x hx (List.mem_append.2 (.inr (List.mem_singleton.2 rfl))), h5⟩
        · rintro ⟨h3, h4, h5, h6⟩
          refine ⟨h3.2, fun y hy hp => ?_, h6⟩
          rcases List.mem_append.1 hp with hp | hp
          · exact h4.2 y hy hp
          · rw [List.mem_singleton.1 hp] at hy
            exact h5 hy
    · rw [if_neg h]
      simp only [Bool.false_eq_true, List.mem_cons, forall_eq_or_imp, false_iff]
      intro h2
      omega
theorem permB_iff (p : List Int) : permB p = true ↔ isPerm p := by
  rw [perm_same]
  unfold permSB isPerm
  by_cases h : p.length ≤ 24
  · rw [if_pos h, permS_iff]
    simp [h]
  · rw [if_neg h]
    simp [h]

/-! Lists without a number twice; what is met from a place. -/
theorem nodup_len (n : Nat) : ∀ l : List Int, l.Nodup → (∀ x ∈ l, 0 ≤ x ∧ x < n) → l.length ≤ n := by
  induction n with
  | zero =>
    intro l _ h
    cases l with
    | nil => simp
    | cons x l => have := h x (by simp); omega
  | succ n ih =>
    intro l hn h
    have h2 := ih (l.filter (fun x => x != (n : Int))) (hn.filter _) (fun x hx => by
      have h3 := List.mem_filter.1 hx
      have h4 := h x h3.1
      have h5 : x ≠ (n : Int) := by simpa using h3.2
      omega)
    have h3 : l.length ≤ (l.filter (fun x => x != (n : Int))).length + 1 := by
      clear h h2 ih
      induction l with
      | nil => simp
      | cons y l ihl =>
        have hn2 := List.nodup_cons.1 hn
        by_cases hy : y = (n : Int)
        · have : l.filter (fun x => x != (n : Int)) = l := List.filter_eq_self.2 (fun x hx => by
            have : x ≠ (n : Int) := fun e => hn2.1 (by rw [hy, ← e]; exact hx)
            simpa using this)
          simp [hy, this]
        · have := ihl hn2.2
          simp [hy]
          omega
    omega
def push (q : List Int) (k : Int) : List Int := if 0 ≤ k ∧ k ∉ q then q ++ [k] else q
def pushAll (q : List Int) (ks : List Int) : List Int := ks.foldl push q
/-- Distinct numbers below n. -/
def Few (n : Nat) (q : List Int) : Prop := q.Nodup ∧ ∀ x ∈ q, 0 ≤ x ∧ x < (n : Int)
theorem few_push {n : Nat} {q : List Int} {k : Int} (h : Few n q) (hk : k < n) : Few n (push q k) := by
  unfold push
  split
  · rename_i h2
    refine ⟨?_, fun x hx => ?_⟩
    · rw [List.nodup_append]
      refine ⟨h.1, by simp, ?_⟩
      intro a ha b hb
      simp at hb
      subst hb
      exact fun e => h2.2 (e ▸ ha)
    · rcases List.mem_append.1 hx with hx | hx
      · exact h.2 x hx
      · simp at hx; subst hx; exact ⟨h2.1, hk⟩
  · exact h
theorem push_len (q : List Int) (k : Int) : q.length ≤ (push q k).length := by unfold push; split <;> simp
theorem few_pushAll {n : Nat} : ∀ (ks q : List Int), Few n q → (∀ k ∈ ks, k < n) → Few n (pushAll q ks) ∧ q.length ≤ (pushAll q ks).length
  | [], q, h, _ => ⟨h, Nat.le_refl _⟩
  | k :: ks, q, h, hk => by
    have h1 := few_push h (hk k (by simp))
    have h2 := few_pushAll ks (push q k) h1 (fun x hx => hk x (by simp [hx]))
    exact ⟨h2.1, Nat.le_trans (push_len q k) h2.2⟩
theorem few_len {n : Nat} {q : List Int} (h : Few n q) : q.length ≤ n := nodup_len n q h.1 h.2
/-- The queue behind the places from 'at_' on. -/
def bfs (nb : Int → List Int) : Nat → List Int → Nat → List Int
  | 0, q, _ => q
  | f + 1, q, i => if h : i < q.length then bfs nb f (pushAll q (nb q[i])) (i + 1) else q
theorem bfs_done (nb : Int → List Int) (f : Nat) (q : List Int) (i : Nat) (h : ¬ i < q.length) : bfs nb f q i = q := by
  cases f with
  | zero => rfl
  | succ f => rw [bfs, dif_neg h]
theorem bfs_few {n : Nat} (nb : Int → List Int) (hnb : ∀ x : Int, 0 ≤ x → x < (n : Int) → ∀ k ∈ nb x, k < (n : Int)) : ∀ (f : Nat) (q : List Int) (i : Nat), Few n q → Few n (bfs nb f q i)
  | 0, q, i, h => h
  | f + 1, q, i, h => by
    rw [bfs]
    split
    · rename_i hi
      have := h.2 _ (List.getElem_mem hi)
      exact bfs_few nb hnb f _ _ (few_pushAll (nb q[i]) q h (hnb q[i] this.1 this.2)).1
    · exact h

/-! Small words on lists, read at a place. -/
theorem wrap_snoc {α : Type} {p s : List α} {x : α} (h : (p ++ x :: s).length ≤ 4611686018427387904) : wrap64 ((p.length : Int) + 1) = ((p ++ [x]).length : Int) := by
  simp at h ⊢
  unfold wrap64
  omega
theorem lt_mid {α : Type} (p s : List α) (x : α) : ((p.length : Nat) : Int) < ((p ++ x :: s).length : Int) := by simp; omega
theorem nlt_end {α : Type} (p : List α) : ¬ ((p.length : Nat) : Int) < ((p ++ []).length : Int) := by simp
theorem rd_mid (p s : List Int) (x : Int) : rd (p ++ x :: s) (p.length : Int) = x := by simp [rd, List.getD]
theorem nil_or_snoc {α : Type} (l : List α) : l = [] ∨ ∃ p x, l = p ++ [x] := by
  rcases List.eq_nil_or_concat l with h | ⟨p, x, h⟩
  · exact .inl h
  · exact .inr ⟨p, x, by rw [h]; simp⟩

theorem rd_get (q : List Int) (i : Nat) (h : i < q.length) : rd q (i : Int) = q[i] := by simp [rd, List.getD, h]

/-- Which of the numbers below n are on the list. -/
def flagsOf (n : Nat) (q : List Int) : List Bool := (List.range n).map (fun (i : Nat) => decide ((i : Int) ∈ q))
theorem flagsOf_len (n : Nat) (q : List Int) : (flagsOf n q).length = n := by simp [flagsOf]
theorem flagsOf_nil (n : Nat) : flagsOf n [] = List.replicate n false := by
  apply List.ext_getElem?
  intro i
  by_cases h : i < n <;> simp [flagsOf, List.getElem?_replicate, h]
theorem flagsOf_rd (n : Nat) (q : List Int) {x : Int} (h0 : 0 ≤ x) (h1 : x < n) : rdOf false (flagsOf n q) x = decide (x ∈ q) := by
  have e : ((x.toNat : Nat) : Int) = x := by omega
  simp [rdOf, flagsOf, List.getD, show x.toNat < n by omega, e]
theorem flagsOf_set (n : Nat) (q : List Int) {x : Int} (h0 : 0 ≤ x) (h1 : x < n) : (flagsOf n q).set x.toNat true = flagsOf n (q ++ [x]) := by
  apply List.ext_getElem?
  intro i
  have hl : x.toNat < (flagsOf n q).length := by rw [flagsOf_len]; omega
  by_cases h : i = x.toNat
  · subst h
    have e : ((x.toNat : Nat) : Int) = x := by omega
    simp [flagsOf, show x.toNat < n by omega, e]
  · have hne : ((i : Nat) : Int) ≠ x := by omega
    rw [List.getElem?_set_ne (by omega)]
    by_cases hi : i < n <;> simp [flagsOf, hi, hne]
theorem perm_rd {p : List Int} (h : isPerm p) {x : Int} (h0 : 0 ≤ x) (h1 : x < p.length) : 0 ≤ rd p x ∧ rd p x < (p.length : Int) := by
  have e : rd p x = p[x.toNat]'(by omega) := by simp [rd, List.getD, show x.toNat < p.length by omega]
  rw [e]
  exact h.2.1 _ (List.getElem_mem _)

/-- One cycle, from x on: the numbers met by then, the cycle. -/
def walkC (p : List Int) : Nat → List Int → List Int → Int → List Int × List Int
  | 0, q, c, _ => (q, c)
  | f + 1, q, c, x => if x ∈ q then (q, c) else walkC p f (q ++ [x]) (c ++ [x]) (rd p x)
def walkOf (p q : List Int) (i : Int) : List Int × List Int := walkC p (p.length + 1 - q.length) q [] i
def cycGo (p : List Int) : Nat → Int → List Int → List (List Int) → List (List Int)
  | 0, _, _, out => out
  | d + 1, i, q, out => cycGo p d (i + 1) (walkOf p q i).1 (if i ∈ q then out else out ++ [(walkOf p q i).2])
def cyclesOf (p : List Int) : List (List Int) := if permB p = true then cycGo p p.length 0 [] [] else []
theorem few_full {n : Nat} {q : List Int} (h : Few n q) (hl : q.length = n) {x : Int} (h0 : 0 ≤ x) (h1 : x < n) : x ∈ q := by
  refine Classical.byContradiction fun hm => ?_
  have hf := few_push h h1
  have := few_len hf
  unfold push at this
  rw [if_pos ⟨h0, hm⟩] at this
  simp at this
  omega
theorem few_snoc {n : Nat} {q : List Int} (h : Few n q) {x : Int} (h0 : 0 ≤ x) (h1 : x < n) (hm : x ∉ q) : Few n (q ++ [x]) := by
  have hf := few_push h h1
  unfold push at hf
  rw [if_pos ⟨h0, hm⟩] at hf
  exact hf
theorem walkC_bd {p : List Int} (hp : isPerm p) : ∀ (f : Nat) (q c : List Int) (x : Int), Few p.length q → c.length ≤ q.length → (∀ y ∈ c, 0 ≤ y ∧ y < (p.length : Int)) → 0 ≤ x → x < p.length →
    Few p.length (walkC p f q c x).1 ∧ (walkC p f q c x).2.length ≤ (walkC p f q c x).1.length ∧ (∀ y ∈ (walkC p f q c x).2, 0 ≤ y ∧ y < (p.length : Int)) ∧ c.length ≤ (walkC p f q c x).2.length
  | 0, q, c, x, hq, hc, hv, h0, h1 => ⟨hq, hc, hv, Nat.le_refl _⟩
  | f + 1, q, c, x, hq, hc, hv, h0, h1 => by
    rw [walkC]
    by_cases hm : x ∈ q
    · rw [if_pos hm]
      exact ⟨hq, hc, hv, Nat.le_refl _⟩
    · rw [if_neg hm]
      have hx := perm_rd hp h0 h1
      have := walkC_bd hp f (q ++ [x]) (c ++ [x]) (rd p x) (few_snoc hq h0 h1 hm) (by simp; omega) (fun y hy => by
        rcases List.mem_append.1 hy with hy | hy
        · exact hv y hy
        · simp at hy; subst hy; exact ⟨h0, h1⟩) hx.1 hx.2
      refine ⟨this.1, this.2.1, this.2.2.1, ?_⟩
      have := this.2.2.2
      simp at this
      omega
def GoodC (c : List Int) : Prop := (∀ y ∈ c, 0 ≤ y ∧ y < 24) ∧ c.length ≤ 24
theorem walkOf_bd {p q : List Int} (hp : isPerm p) (hq : Few p.length q) {i : Int} (h0 : 0 ≤ i) (h1 : i < p.length) : Few p.length (walkOf p q i).1 ∧ GoodC (walkOf p q i).2 := by
  have h := walkC_bd hp (p.length + 1 - q.length) q [] i hq (by simp) (by simp) h0 h1
  have hn := hp.1
  have hl := few_len h.1
  refine ⟨h.1, fun y hy => ?_, ?_⟩
  · have := h.2.2.1 y hy
    omega
  · have h2 := h.2.1
    have e : (walkC p (p.length + 1 - q.length) q [] i) = walkOf p q i := rfl
    rw [e] at h2 hl
    omega
theorem walkOf_in {p q : List Int} (hq : Few p.length q) {i : Int} (hm : i ∈ q) : walkOf p q i = (q, []) := by
  unfold walkOf
  have hl := few_len hq
  obtain ⟨f, hf⟩ : ∃ f, p.length + 1 - q.length = f + 1 := ⟨p.length - q.length, by omega⟩
  rw [hf, walkC, if_pos hm]
theorem cycGo_bd {p : List Int} (hp : isPerm p) : ∀ (d : Nat) (i : Int) (q : List Int) (out : List (List Int)), 0 ≤ i → i + d = p.length → Few p.length q → (∀ c ∈ out, GoodC c) →
    (∀ c ∈ cycGo p d i q out, GoodC c) ∧ (cycGo p d i q out).length ≤ out.length + d
  | 0, _, _, out, _, _, _, ho => ⟨ho, Nat.le_refl _⟩
  | d + 1, i, q, out, h0, hi, hq, ho => by
    have hw := walkOf_bd hp hq h0 (show i < p.length by omega)
    simp only [cycGo]
    by_cases hm : i ∈ q
    · rw [if_pos hm]
      have := cycGo_bd hp d (i + 1) (walkOf p q i).1 out (by omega) (by omega) hw.1 ho
      exact ⟨this.1, by have := this.2; omega⟩
    · rw [if_neg hm]
      have := cycGo_bd hp d (i + 1) (walkOf p q i).1 (out ++ [(walkOf p q i).2]) (by omega) (by omega) hw.1 (fun c hc => by
        rcases List.mem_append.1 hc with hc | hc
        · exact ho c hc
        · simp at hc; subst hc; exact hw.2)
      refine ⟨this.1, ?_⟩
      have := this.2
      simp at this
      omega
theorem cyclesOf_bd (p : List Int) : (∀ c ∈ cyclesOf p, GoodC c) ∧ (cyclesOf p).length ≤ 24 := by
  unfold cyclesOf
  by_cases h : permB p = true
  · rw [if_pos h]
    have hp := (permB_iff p).1 h
    have := cycGo_bd hp p.length 0 [] [] (by omega) (by omega) ⟨by simp, by simp⟩ (by simp)
    refine ⟨this.1, ?_⟩
    have := this.2
    have := hp.1
    simp at *
    omega
  · rw [if_neg h]
    simp
theorem impl_cyc_l1 {p : List Int} (hp : isPerm p) (out : List (List Int)) (ho : out.length ≤ 24) (i : Int) (hi : 0 ≤ i ∧ i < p.length) (r : List (List Int)) : ∀ (f : Nat) (q c : List Int) (x : Int), Few p.length q → c.length ≤ q.length → f + q.length = p.length + 1 → 0 ≤ x → x < p.length →
    Ev (fun k => impl_CyclesOf.l0 k p (flagsOf p.length (walkC p f q c x).1) (out ++ [(walkC p f q c x).2]) (p.length : Int) (i + 1)) r →
    Ev (fun k => impl_CyclesOf.l1 k p (flagsOf p.length q) out c x (p.length : Int) i) r
  | 0, q, c, x, hq, _, hf, _, _, _ => by
    have := few_len hq
    omega
  | f + 1, q, c, x, hq, hc, hf, h0, h1, hr => by
    have hn := hp.1
    have hql := few_len hq
    refine ev_up ?_
    have hw : wrap64 (i + 1) = i + 1 := pw_wrap (by omega) (by omega)
    simp only [impl_CyclesOf.l1, if_pos h0, flagsOf_len, if_pos h1, flagsOf_rd p.length q h0 h1, hw]
    rw [walkC] at hr
    by_cases hm : x ∈ q
    · rw [if_pos hm] at hr
      simp only [decide_eq_true hm, if_true, if_pos (show out.length < 5864062014805 by omega)]
      exact hr
    · rw [if_neg hm] at hr
      simp only [decide_eq_false hm, Bool.false_eq_true, if_false, if_pos (show c.length < 17592186044416 by omega), flagsOf_set p.length q h0 h1]
      have hx := perm_rd hp h0 h1
      exact impl_cyc_l1 hp out ho i hi r f (q ++ [x]) (c ++ [x]) (rd p x) (few_snoc hq h0 h1 hm) (by simp; omega) (by simp; omega) hx.1 hx.2 hr
theorem impl_cyc_l0 {p : List Int} (hp : isPerm p) : ∀ (d : Nat) (i : Int) (q : List Int) (out : List (List Int)), 0 ≤ i → i + d = p.length → Few p.length q → out.length + d ≤ 24 →
    Ev (fun k => impl_CyclesOf.l0 k p (flagsOf p.length q) out (p.length : Int) i) (cycGo p d i q out)
  | 0, i, q, out, h0, hi, hq, ho => by
    refine ev_up ?_
    simp only [impl_CyclesOf.l0, if_neg (show ¬ i < (p.length : Int) by omega)]
    exact Ev.now _
  | d + 1, i, q, out, h0, hi, hq, ho => by
    refine ev_up ?_
    have h1 : i < (p.length : Int) := by omega
    have hn := hp.1
    have hw64 : wrap64 (i + 1) = i + 1 := pw_wrap (by omega) (by omega)
    simp only [impl_CyclesOf.l0, if_pos h1, if_pos h0, flagsOf_len, flagsOf_rd p.length q h0 h1, hw64]
    have hql := few_len hq
    rw [cycGo]
    by_cases hm : i ∈ q
    · simp only [decide_eq_true hm, if_true]
      rw [walkOf_in hq hm, if_pos hm]
      exact impl_cyc_l0 hp d (i + 1) q out (by omega) (by omega) hq (by omega)
    · simp only [decide_eq_false hm, Bool.false_eq_true, if_false, if_neg hm]
      refine impl_cyc_l1 hp out (by omega) i ⟨h0, h1⟩ _ (p.length + 1 - q.length) q [] i hq (by simp) (by omega) h0 h1 ?_
      have e : walkC p (p.length + 1 - q.length) q [] i = walkOf p q i := rfl
      rw [e]
      have hw := walkOf_bd hp hq h0 h1
      exact impl_cyc_l0 hp d (i + 1) _ _ (by omega) (by omega) hw.1 (by simp; omega)
theorem impl_cycles (p : List Int) : Ev (fun k => impl_CyclesOf.f k p) (cyclesOf p) := by
  unfold impl_CyclesOf.f cyclesOf
  simp only [impl_PermOk.f, Option.bind_some]
  by_cases h : permB p = true
  · have hp := (permB_iff p).1 h
    have hn := hp.1
    simp only [if_pos h, if_pos (Int.natCast_nonneg p.length), Int.toNat_natCast, if_pos (show p.length ≤ 281474976710656 by omega), ← flagsOf_nil]
    exact impl_cyc_l0 hp p.length 0 [] [] (by omega) (by omega) ⟨by simp, by simp⟩ (by simp; omega)
  · simp only [if_neg h]
    exact Ev.now _

/-! Inverses of permutations; one after the other. -/
theorem rdS_same {a : List Int} {k v : Int} (k0 : 0 ≤ k) (k1 : k < a.length) : rd (a.set k.toNat v) k = v := by
  have : k.toNat < a.length := by omega
  simp [rd, List.getD, this]
theorem rdS_ne {a : List Int} {k l v : Int} (k0 : 0 ≤ k) (l0 : 0 ≤ l) (h : l ≠ k) : rd (a.set k.toNat v) l = rd a l := by
  have : k.toNat ≠ l.toNat := by omega
  simp [rd, List.getD, List.getElem?_set_ne this]
theorem pm_in {p : List Int} (hp : isPerm p) {x : Int} (x0 : 0 ≤ x) (x1 : x < p.length) : 0 ≤ rd p x ∧ rd p x < p.length := perm_rd hp x0 x1
theorem pm_inj {p : List Int} (hp : isPerm p) {x y : Int} (x0 : 0 ≤ x) (x1 : x < p.length) (y0 : 0 ≤ y) (y1 : y < p.length) (e : rd p x = rd p y) : x = y := by
  obtain ⟨i, rfl⟩ := Int.eq_ofNat_of_zero_le x0
  obtain ⟨j, rfl⟩ := Int.eq_ofNat_of_zero_le y0
  have hi : i < p.length := by omega
  have hj : j < p.length := by omega
  rw [rd_get p i hi, rd_get p j hj] at e
  have := List.pairwise_iff_getElem.1 hp.2.2
  rcases Nat.lt_trichotomy i j with h | h | h
  · exact absurd e (this i j hi hj h)
  · rw [h]
  · exact absurd e.symm (this j i hj hi h)
theorem pm_sur {p : List Int} (hp : isPerm p) {y : Int} (y0 : 0 ≤ y) (y1 : y < p.length) : ∃ x : Int, 0 ≤ x ∧ x < p.length ∧ rd p x = y := by
  have hm : y ∈ p := few_full (n := p.length) ⟨hp.2.2, hp.2.1⟩ rfl y0 y1
  obtain ⟨i, hi, e⟩ := List.getElem_of_mem hm
  exact ⟨(i : Int), by omega, by omega, by rw [rd_get p i hi, e]⟩
theorem pm_of {a : List Int} (hl : a.length ≤ 24) (hb : ∀ x : Int, 0 ≤ x → x < a.length → 0 ≤ rd a x ∧ rd a x < a.length) (hi : ∀ x y : Int, 0 ≤ x → x < a.length → 0 ≤ y → y < a.length → rd a x = rd a y → x = y) : isPerm a := by
  refine ⟨hl, fun x hx => ?_, ?_⟩
  · obtain ⟨i, h, rfl⟩ := List.getElem_of_mem hx
    have := hb (i : Int) (by omega) (by omega)
    rwa [rd_get a i h] at this
  · refine List.pairwise_iff_getElem.2 fun i j h1 h2 hij e => ?_
    have := hi (i : Int) (j : Int) (by omega) (by omega) (by omega) (by omega) (by rw [rd_get a i h1, rd_get a j h2, e])
    omega
def invGo (p : List Int) : Nat → Int → List Int → List Int
  | 0, _, out => out
  | d + 1, i, out => invGo p d (i + 1) (out.set (rd p i).toNat i)
def invL (p : List Int) : List Int := invGo p p.length 0 (List.replicate p.length 0)
theorem invGo_spec {p : List Int} (hp : isPerm p) : ∀ (d : Nat) (i : Int) (out : List Int), 0 ≤ i → i + d = p.length → out.length = p.length → (∀ j : Int, 0 ≤ j → j < i → rd out (rd p j) = j) →
    (invGo p d i out).length = p.length ∧ ∀ j : Int, 0 ≤ j → j < p.length → rd (invGo p d i out) (rd p j) = j
  | 0, i, out, h0, hi, hl, h => ⟨hl, fun j j0 j1 => h j j0 (by omega)⟩
  | d + 1, i, out, h0, hi, hl, h => by
    have hb := pm_in hp h0 (by omega)
    refine invGo_spec hp d (i + 1) _ (by omega) (by omega) (by simpa using hl) ?_
    intro j j0 j1
    by_cases e : j = i
    · subst e
      exact rdS_same hb.1 (by omega)
    · have hj := pm_in hp j0 (by omega)
      rw [rdS_ne hb.1 hj.1 (fun e2 => e (pm_inj hp j0 (by omega) h0 (by omega) e2))]
      exact h j j0 (by omega)
theorem invL_len {p : List Int} (hp : isPerm p) : (invL p).length = p.length := (invGo_spec hp p.length 0 _ (by omega) (by omega) (by simp) (fun j j0 j1 => by omega)).1
theorem inv_left {p : List Int} (hp : isPerm p) {x : Int} (h0 : 0 ≤ x) (h1 : x < p.length) : rd (invL p) (rd p x) = x := (invGo_spec hp p.length 0 _ (by omega) (by omega) (by simp) (fun j j0 j1 => by omega)).2 x h0 h1
theorem inv_right {p : List Int} (hp : isPerm p) {y : Int} (h0 : 0 ≤ y) (h1 : y < p.length) : rd p (rd (invL p) y) = y ∧ 0 ≤ rd (invL p) y ∧ rd (invL p) y < p.length := by
  obtain ⟨x, x0, x1, e⟩ := pm_sur hp h0 h1
  rw [← e, inv_left hp x0 x1]
  exact ⟨rfl, x0, x1⟩
theorem inv_perm {p : List Int} (hp : isPerm p) : isPerm (invL p) := by
  have hl := invL_len hp
  refine pm_of (by have := hp.1; omega) (fun x h0 h1 => ?_) (fun x y x0 x1 y0 y1 e => ?_)
  · have := inv_right hp h0 (by omega)
    omega
  · rw [← (inv_right hp x0 (by omega)).1, e, (inv_right hp y0 (by omega)).1]
def thenL (p q : List Int) : List Int := p.map (rd q)
/-! What the functions compute. -/
theorem spec_inv_l0 {p : List Int} (hp : isPerm p) : ∀ (d : Nat) (i : Int) (out : List Int), 0 ≤ i → i + d = p.length → out.length = p.length → Ev (fun k => spec_l02Inverse.l0 k out p (p.length : Int) i) (invGo p d i out)
  | 0, i, out, h0, hi, hl => by
    refine ev_up ?_
    simp only [spec_l02Inverse.l0, if_neg (show ¬ i < (p.length : Int) by omega)]
    exact Ev.now _
  | d + 1, i, out, h0, hi, hl => by
    have hb := pm_in hp h0 (by omega)
    have hn := hp.1
    refine ev_up ?_
    simp only [spec_l02Inverse.l0, if_pos (show i < (p.length : Int) by omega), if_pos h0, if_pos hb.1, if_pos (show rd p i < (out.length : Int) by omega), pw_wrap (a := i + 1) (by omega) (by omega)]
    exact spec_inv_l0 hp d (i + 1) _ (by omega) (by omega) (by simpa using hl)
theorem spec_inv {p : List Int} (hp : isPerm p) : Ev (fun k => spec_l02Inverse.f k p) (invL p) := by
  have hn := hp.1
  unfold spec_l02Inverse.f
  simp only [if_pos (Int.natCast_nonneg p.length), Int.toNat_natCast, if_pos (show p.length ≤ 35184372088832 by omega)]
  exact spec_inv_l0 hp p.length 0 _ (by omega) (by omega) (by simp)
theorem spec_thn_l0 (q p : List Int) (hp : p.length ≤ 1000) (hb : ∀ x ∈ p, 0 ≤ x ∧ x < (q.length : Int)) : ∀ (suf pre : List Int), p = pre ++ suf → Ev (fun k => spec_l02Then.l0 k q (pre.map (rd q)) p (p.length : Int) (pre.length : Int)) (p.map (rd q))
  | [], pre, e => by
    have e2 : p = pre := by simpa using e
    subst e2
    refine ev_up ?_
    simp only [spec_l02Then.l0, if_neg (show ¬ ((p.length : Int) < p.length) by omega)]
    exact Ev.now _
  | x :: suf, pre, e => by
    have hlen : p.length = pre.length + suf.length + 1 := by rw [e]; simp; omega
    have hx : rd p (pre.length : Int) = x := by rw [e]; simp [rd, List.getD]
    have hw : wrap64 ((pre.length : Int) + 1) = ((pre ++ [x]).length : Int) := by rw [pw_wrap (by omega) (by omega)]; simp
    have hxb := hb x (by rw [e]; simp)
    have ih := spec_thn_l0 q p hp hb suf (pre ++ [x]) (by simp [e])
    refine ev_up ?_
    simp only [spec_l02Then.l0, if_pos (show ((pre.length : Int) < p.length) by omega), if_pos (Int.natCast_nonneg pre.length), hx, hw, if_pos hxb.1, if_pos hxb.2, List.length_map, if_pos (show pre.length < 17592186044416 by omega)]
    rw [List.map_append] at ih
    exact ih
theorem spec_thn {p q : List Int} (hp : isPerm p) (he : p.length = q.length) : Ev (fun k => spec_l02Then.f k p q) (thenL p q) :=
  spec_thn_l0 q p (by have := hp.1; omega) (fun x hx => by have := hp.2.1 x hx; omega) p [] rfl
theorem spec_has_l0 (l : List Int) (hl : l.length ≤ 4611686018427387904) (x : Int) : ∀ (suf pre : List Int), l = pre ++ suf →
    Ev (fun k => spec_l02Has.l0 k x l (l.length : Int) (pre.length : Int)) (decide (x ∈ suf)) := by
  intro suf
  induction suf with
  | nil =>
    intro pre h
    subst h
    refine ev_up ?_
    simp only [spec_l02Has.l0, if_neg (nlt_end pre)]
    simpa using Ev.now false
  | cons c suf ih =>
    intro pre h
    have := ih (pre ++ [c]) (by simp [h])
    subst h
    refine ev_up ?_
    by_cases hc : c = x
    · simp only [spec_l02Has.l0, if_pos (lt_mid pre suf c), if_pos (Int.natCast_nonneg pre.length), rd_mid, if_pos hc]
      simpa [hc] using Ev.now true
    · simp only [spec_l02Has.l0, if_pos (lt_mid pre suf c), if_pos (Int.natCast_nonneg pre.length), rd_mid, if_neg hc, wrap_snoc hl]
      rw [show decide (x ∈ c :: suf) = decide (x ∈ suf) by simp [Ne.symm hc]]
      exact this
theorem spec_has (l : List Int) (hl : l.length ≤ 4611686018427387904) (x : Int) : Ev (fun k => spec_l02Has.f k l x) (decide (x ∈ l)) := spec_has_l0 l hl x l [] rfl

def nbT (r u : List Int) (x : Int) : List Int := [rd r x, rd u x]
theorem spec_reach_l1 (rr u : List Int) (n : Nat) (hn : n ≤ 24) (x8 : Int) (hx : 0 ≤ x8 ∧ x8 ≤ 1000) (ys : List Int) (hy : ys.length ≤ 1000) (r : List Int) : ∀ (suf pre q : List Int), ys = pre ++ suf → Few n q → (∀ k ∈ suf, 0 ≤ k ∧ k < (n : Int)) →
    Ev (fun k => spec_l02Reach.l0 k rr u (pushAll q suf) (x8 + 1)) r → Ev (fun k => spec_l02Reach.l1 k rr u q x8 ys (ys.length : Int) (pre.length : Int)) r := by
  intro suf
  induction suf with
  | nil =>
    intro pre q h hq hk hr
    subst h
    refine ev_up ?_
    simp only [spec_l02Reach.l1, if_neg (nlt_end pre), pw_wrap (a := x8 + 1) (by omega) (by omega)]
    exact hr
  | cons c suf ih =>
    intro pre q h hq hk hr
    have hc := hk c (by simp)
    have hf := few_push hq hc.2
    have hi := ih (pre ++ [c]) (push q c) (by simp [h]) hf (fun k h' => hk k (by simp [h'])) hr
    subst h
    have hql := few_len hq
    refine ev_up ?_
    simp only [spec_l02Reach.l1, if_pos (lt_mid pre suf c), if_pos (Int.natCast_nonneg pre.length), rd_mid, wrap_snoc (x := c) (s := suf) (p := pre) (by simp at hy ⊢; omega)]
    refine Ev.bind (spec_has q (by omega) c) ?_
    by_cases hm : c ∈ q
    · simp only [decide_eq_true hm, if_true]
      unfold push at hi
      rw [if_neg (fun h => h.2 hm)] at hi
      exact hi
    · simp only [decide_eq_false hm, Bool.false_eq_true, if_false, if_pos (show q.length < 17592186044416 by omega)]
      unfold push at hi
      rw [if_pos ⟨hc.1, hm⟩] at hi
      exact hi
theorem nbT_lt {rr u : List Int} (hr : isPerm rr) (hu : isPerm u) (he : rr.length = u.length) {x : Int} (h0 : 0 ≤ x) (h1 : x < rr.length) : ∀ k ∈ nbT rr u x, 0 ≤ k ∧ k < (rr.length : Int) := by
  intro k hk
  have a := perm_rd hr h0 h1
  have b := perm_rd hu h0 (by omega)
  simp only [nbT, List.mem_cons, List.not_mem_nil, or_false] at hk
  rcases hk with rfl | rfl <;> omega
theorem spec_reach_l0 {rr u : List Int} (hr : isPerm rr) (hu : isPerm u) (he : rr.length = u.length) : ∀ (f : Nat) (q : List Int) (i : Nat), Few rr.length q → i ≤ q.length → f + i = rr.length + 1 →
    Ev (fun k => spec_l02Reach.l0 k rr u q (i : Int)) (bfs (nbT rr u) f q i) := by
  intro f
  have hn := hr.1
  induction f with
  | zero =>
    intro q i hq hi hf
    have := few_len hq
    omega
  | succ f ih =>
    intro q i hq hi hf
    have hql := few_len hq
    refine ev_up ?_
    by_cases h : i < q.length
    · have hx := hq.2 _ (List.getElem_mem h)
      simp only [spec_l02Reach.l0, if_pos (show ((i : Nat) : Int) < (q.length : Int) by omega), if_pos (Int.natCast_nonneg i), rd_get q i h, if_pos hx.1, if_pos hx.2, if_pos (show q[i] < (u.length : Int) by omega), Option.bind_some]
      have hlt := nbT_lt hr hu he hx.1 hx.2
      have hp := few_pushAll _ q hq (fun k hk => (hlt k hk).2)
      have := ih _ (i + 1) hp.1 (by have := hp.2; omega) (by omega)
      rw [bfs, dif_pos h]
      exact spec_reach_l1 rr u rr.length hn i (by omega) (nbT rr u q[i]) (by simp [nbT]) _ _ [] q rfl hq hlt this
    · simp only [spec_l02Reach.l0, if_neg (show ¬ ((i : Nat) : Int) < (q.length : Int) by omega)]
      rw [bfs_done _ _ _ _ h]
      exact Ev.now _
def reachOf (r u : List Int) : List Int := bfs (nbT r u) (r.length + 1) [0] 0
def transB (r u : List Int) : Bool := permB r && permB u && decide (r.length = u.length) && decide (0 < r.length) && ((reachOf r u).length : Int) == (r.length : Int)
theorem few_z {n : Nat} (h : 1 ≤ n) : Few n [0] := ⟨by simp, fun x hx => by simp at hx; subst hx; omega⟩
theorem spec_trans (r u : List Int) : Ev (fun k => spec_IsTransitive.f k r u) (transB r u) := by
  unfold spec_IsTransitive.f transB
  simp only [spec_PermOk.f, ← perm_same, Option.bind_some]
  by_cases h1 : permB r = true
  · simp only [h1, if_true, Bool.true_and]
    by_cases h2 : permB u = true
    · simp only [h2, if_true, Bool.true_and]
      by_cases h3 : r.length = u.length
      · simp only [if_pos (show (r.length : Int) = u.length by omega), decide_eq_true h3, Bool.true_and]
        by_cases h4 : 0 < r.length
        · simp only [if_pos (show (r.length : Int) > 0 by omega), decide_eq_true h4, Bool.true_and]
          refine Ev.bind (a := reachOf r u) ?_ (Ev.now _)
          unfold spec_l02Reach.f
          exact spec_reach_l0 ((permB_iff r).1 h1) ((permB_iff u).1 h2) h3 _ [0] 0 (few_z h4) (by simp) (by omega)
        · simp only [if_neg (show ¬ (r.length : Int) > 0 by omega), decide_eq_false h4, Bool.false_and]
          exact Ev.now _
      · simp only [if_neg (show ¬ (r.length : Int) = u.length by omega), decide_eq_false h3, Bool.false_and]
        exact Ev.now _
    · simp only [Bool.eq_false_iff.2 h2, Bool.false_eq_true, if_false, Bool.false_and]
      exact Ev.now _
  · simp only [Bool.eq_false_iff.2 h1, Bool.false_eq_true, if_false, Bool.false_and]
    exact Ev.now _
theorem impl_trans_l1 (rr u : List Int) (n : Nat) (hn : n ≤ 24) (x8 : Int) (hx : 0 ≤ x8 ∧ x8 ≤ 1000) (ys : List Int) (hy : ys.length ≤ 1000) (r : Bool) : ∀ (suf pre q : List Int), ys = pre ++ suf → Few n q → (∀ k ∈ suf, 0 ≤ k ∧ k < (n : Int)) →
    Ev (fun k => impl_IsTransitive.l0 k rr u (flagsOf n (pushAll q suf)) (pushAll q suf) (x8 + 1)) r → Ev (fun k => impl_IsTransitive.l1 k rr u (flagsOf n q) q x8 ys (ys.length : Int) (pre.length : Int)) r := by
  intro suf
  induction suf with
  | nil =>
    intro pre q h hq hk hr
    subst h
    refine ev_up ?_
    simp only [impl_IsTransitive.l1, if_neg (nlt_end pre), pw_wrap (a := x8 + 1) (by omega) (by omega)]
    exact hr
  | cons c suf ih =>
    intro pre q h hq hk hr
    have hc := hk c (by simp)
    have hf := few_push hq hc.2
    have hi := ih (pre ++ [c]) (push q c) (by simp [h]) hf (fun k h' => hk k (by simp [h'])) hr
    subst h
    have hql := few_len hq
    refine ev_up ?_
    simp only [impl_IsTransitive.l1, if_pos (lt_mid pre suf c), if_pos (Int.natCast_nonneg pre.length), rd_mid, wrap_snoc (x := c) (s := suf) (p := pre) (by simp at hy ⊢; omega), if_pos hc.1, flagsOf_len, if_pos hc.2, flagsOf_rd n q hc.1 hc.2]
    by_cases hm : c ∈ q
    · simp only [decide_eq_true hm, if_true]
      unfold push at hi
      rw [if_neg (fun h => h.2 hm)] at hi
      exact hi
    · simp only [decide_eq_false hm, Bool.false_eq_true, if_false, if_pos (show q.length < 17592186044416 by omega), flagsOf_set n q hc.1 hc.2]
      unfold push at hi
      rw [if_pos ⟨hc.1, hm⟩] at hi
      exact hi
theorem impl_trans_l0 {rr u : List Int} (hr : isPerm rr) (hu : isPerm u) (he : rr.length = u.length) : ∀ (f : Nat) (q : List Int) (i : Nat), Few rr.length q → i ≤ q.length → f + i = rr.length + 1 →
    Ev (fun k => impl_IsTransitive.l0 k rr u (flagsOf rr.length q) q (i : Int)) (((bfs (nbT rr u) f q i).length : Int) == (rr.length : Int)) := by
  intro f
  have hn := hr.1
  induction f with
  | zero =>
    intro q i hq hi hf
    have := few_len hq
    omega
  | succ f ih =>
    intro q i hq hi hf
    have hql := few_len hq
    refine ev_up ?_
    by_cases h : i < q.length
    · have hx := hq.2 _ (List.getElem_mem h)
      simp only [impl_IsTransitive.l0, if_pos (show ((i : Nat) : Int) < (q.length : Int) by omega), if_pos (Int.natCast_nonneg i), rd_get q i h, if_pos hx.1, if_pos hx.2, if_pos (show q[i] < (u.length : Int) by omega), Option.bind_some]
      have hlt := nbT_lt hr hu he hx.1 hx.2
      have hp := few_pushAll _ q hq (fun k hk => (hlt k hk).2)
      have := ih _ (i + 1) hp.1 (by have := hp.2; omega) (by omega)
      rw [bfs, dif_pos h]
      exact impl_trans_l1 rr u rr.length hn i (by omega) (nbT rr u q[i]) (by simp [nbT]) _ _ [] q rfl hq hlt this
    · simp only [impl_IsTransitive.l0, if_neg (show ¬ ((i : Nat) : Int) < (q.length : Int) by omega)]
      rw [bfs_done _ _ _ _ h]
      exact Ev.now _
theorem impl_trans (r u : List Int) : Ev (fun k => impl_IsTransitive.f k r u) (transB r u) := by
  unfold impl_IsTransitive.f transB
  have hbad : ∀ b : Bool, b = false → Ev (fun k => impl_IsTransitive.j0 k r u true) b := by
    rintro b rfl
    refine ev_up ?_
    simp only [impl_IsTransitive.j0, if_true]
    exact Ev.now _
  simp only [impl_PermOk.f, Option.bind_some]
  by_cases h1 : permB r = true
  · simp only [h1, if_true, Bool.true_and]
    by_cases h2 : permB u = true
    · simp only [h2, if_true, Bool.true_and]
      by_cases h3 : r.length = u.length
      · simp only [if_pos (show (r.length : Int) = u.length by omega), decide_eq_true h3, Bool.true_and]
        by_cases h4 : 0 < r.length
        · have hn := ((permB_iff r).1 h1).1
          have e : ((r.length : Int) == 0) = false := by simp; intro e; rw [e] at h4; exact absurd h4 (by simp)
          rw [e]
          simp only [decide_eq_true h4, Bool.true_and]
          refine ev_up ?_
          have hset : (List.replicate r.length false).set (0 : Int).toNat true = flagsOf r.length [0] := by
            rw [← flagsOf_nil, flagsOf_set r.length [] (by omega) (by omega)]
            rfl
          simp only [impl_IsTransitive.j0, Bool.false_eq_true, if_false, if_pos (Int.natCast_nonneg r.length), Int.toNat_natCast, if_pos (show r.length ≤ 281474976710656 by omega), Option.bind_some, List.length_replicate, if_pos (show (0 : Int) < (r.length : Int) by omega), hset]
          exact impl_trans_l0 ((permB_iff r).1 h1) ((permB_iff u).1 h2) h3 _ [0] 0 (few_z h4) (by simp) (by omega)
        · have e : ((r.length : Int) == 0) = true := by
            have : r.length = 0 := by omega
            rw [this]; rfl
          rw [e]
          simp only [decide_eq_false h4, Bool.false_and]
          exact hbad _ rfl
      · simp only [if_neg (show ¬ (r.length : Int) = u.length by omega), decide_eq_false h3, Bool.false_and]
        exact hbad _ rfl
    · simp only [Bool.eq_false_iff.2 h2, Bool.false_eq_true, if_false, Bool.false_and]
      exact hbad _ rfl
  · simp only [Bool.eq_false_iff.2 h1, Bool.false_eq_true, if_false, Bool.false_and]
    exact hbad _ rfl
theorem transB_side {r u : List Int} (h : transB r u = true) : isPerm r ∧ isPerm u ∧ r.length = u.length ∧ 0 < r.length ∧ (reachOf r u).length = r.length := by
  unfold transB at h
  simp only [Bool.and_eq_true, decide_eq_true_eq, beq_iff_eq] at h
  obtain ⟨⟨⟨⟨h1, h2⟩, h3⟩, h4⟩, h5⟩ := h
  exact ⟨(permB_iff r).1 h1, (permB_iff u).1 h2, h3, h4, by omega⟩
theorem spec_surfOk (r u : List Int) : Ev (fun k => spec_SurfaceOk.f k r u) (transB r u) := Ev.bind (spec_trans r u) (Ev.now _)
theorem impl_surfOk (r u : List Int) : Ev (fun k => impl_SurfaceOk.f k r u) (transB r u) := Ev.bind (impl_trans r u) (Ev.now _)

/-! The surface that is drawn is one. -/
def torusP (w h : Nat) : List Int × List Int := ((List.range (w * h)).map fun i => ((i / w * w + (i % w + 1) % w : Nat) : Int), (List.range (w * h)).map fun i => (((i + w) % (w * h) : Nat) : Int))
def ellP (a b : Nat) : List Int × List Int := ((List.range (a + b - 1)).map fun i => if i < a then (((i + 1) % a : Nat) : Int) else (i : Int), (List.range (a + b - 1)).map fun i => if 1 < b then (if i = 0 then (a : Int) else if a ≤ i then (((i + 1) % (a + b - 1) : Nat) : Int) else (i : Int)) else (i : Int))
def shearP (s : List Int × List Int) : List Int × List Int := (s.1, thenL (invL s.1) s.2)
def sheared : Nat → List Int × List Int → List Int × List Int
  | 0, s => s
  | c + 1, s => sheared c (shearP s)
theorem torus_all : ((List.range 4).all fun w => (List.range 3).all fun h => (List.range 4).all fun c => transB (sheared c (torusP (w + 1) (h + 1))).1 (sheared c (torusP (w + 1) (h + 1))).2) = true := by kernel_rfl
theorem ell_all : ((List.range 5).all fun a => (List.range 4).all fun b => transB (ellP (a + 1) (b + 1)).1 (ellP (a + 1) (b + 1)).2) = true := by kernel_rfl
theorem torus_ok {w h c : Nat} (hw : w < 4) (hh : h < 3) (hc : c < 4) : transB (sheared c (torusP (w + 1) (h + 1))).1 (sheared c (torusP (w + 1) (h + 1))).2 = true := by
  have := List.all_eq_true.1 torus_all w (List.mem_range.2 hw)
  have := List.all_eq_true.1 this h (List.mem_range.2 hh)
  exact List.all_eq_true.1 this c (List.mem_range.2 hc)
theorem ell_ok {a b : Nat} (ha : a < 5) (hb : b < 4) : transB (ellP (a + 1) (b + 1)).1 (ellP (a + 1) (b + 1)).2 = true := by
  have := List.all_eq_true.1 ell_all a (List.mem_range.2 ha)
  exact List.all_eq_true.1 this b (List.mem_range.2 hb)
theorem ev_from {α : Type} {f : Nat → Option α} {v : α} (n : Nat) (h : ∀ j, f (j + n) = some v) : Ev f v := ⟨n, fun k hk => by
  obtain ⟨j, rfl⟩ : ∃ j, k = j + n := ⟨k - n, by omega⟩
  exact h j⟩
theorem torus_ev {w h : Nat} (hw : w < 4) (hh : h < 3) : Ev (fun k => spec_TorusOf.f k ((w + 1 : Nat) : Int) ((h + 1 : Nat) : Int)) ((torusP (w + 1) (h + 1)).1, (torusP (w + 1) (h + 1)).2, true) := by
  refine ev_from 20 fun j => ?_
  rcases (by omega : w = 0 ∨ w = 1 ∨ w = 2 ∨ w = 3) with rfl | rfl | rfl | rfl <;> rcases (by omega : h = 0 ∨ h = 1 ∨ h = 2) with rfl | rfl | rfl <;> kernel_rfl
theorem ell_ev {a b : Nat} (ha : a < 5) (hb : b < 4) : Ev (fun k => spec_EllOf.f k ((a + 1 : Nat) : Int) ((b + 1 : Nat) : Int)) ((ellP (a + 1) (b + 1)).1, (ellP (a + 1) (b + 1)).2, true) := by
  refine ev_from 20 fun j => ?_
  rcases (by omega : a = 0 ∨ a = 1 ∨ a = 2 ∨ a = 3 ∨ a = 4) with rfl | rfl | rfl | rfl | rfl <;> rcases (by omega : b = 0 ∨ b = 1 ∨ b = 2 ∨ b = 3) with rfl | rfl | rfl | rfl <;> kernel_rfl
theorem shear_ev {s : List Int × List Int} (h : transB s.1 s.2 = true) : Ev (fun k => spec_l05Shear.f k s.1 s.2) (shearP s) := by
  obtain ⟨hr, hu, he, h0, _⟩ := transB_side h
  have hn := hr.1
  have hl := invL_len hr
  unfold spec_l05Shear.f
  simp only [Option.bind_some, List.length_nil, List.nil_append, if_pos (show 0 + s.1.length < 17592186044416 by omega)]
  refine Ev.bind (spec_inv hr) ?_
  refine Ev.bind (spec_thn (inv_perm hr) (by omega)) ?_
  exact Ev.now _
theorem sheared_ev : ∀ (c : Nat) (s : List Int × List Int), (∀ d, d ≤ c → transB (sheared d s).1 (sheared d s).2 = true) → c < 1000 → Ev (fun k => spec_MakeSurface.l0 k (c : Int) s.1 s.2) (sheared c s)
  | 0, s, h, _ => by
    refine ev_up ?_
    simp only [spec_MakeSurface.l0, if_neg (show ¬ ((0 : Nat) : Int) > 0 by omega)]
    exact Ev.now _
  | c + 1, s, h, hc => by
    have ih := sheared_ev c (shearP s) (fun d hd => h (d + 1) (by omega)) (by omega)
    refine ev_up ?_
    simp only [spec_MakeSurface.l0, if_pos (show ((c + 1 : Nat) : Int) > 0 by omega)]
    refine Ev.bind (shear_ev (h 0 (by omega))) ?_
    rw [show wrap64 (((c + 1 : Nat) : Int) - 1) = ((c : Nat) : Int) by rw [pw_wrap (by omega) (by omega)]; omega]
    exact ih
theorem drawp_l0 (l : List Int) (hl : l.length ≤ 4611686018427387904) (n : Int) (hn : n ≤ 200) : ∀ (d : Nat) (x i h : Int) (out : List Int), 0 ≤ x → x + d = n → 0 ≤ i → (out.length : Int) = x → ∃ r i' h', Ev (fun k => spec_l02Draw.l0 k n out x l i h) (r, i', h') ∧ 0 ≤ i'
  | 0, x, i, h, out, h0, h1, hi, ho => by
    refine ⟨out, i, h, ev_up ?_, hi⟩
    simp only [spec_l02Draw.l0, if_neg (show ¬ x < n by omega)]
    exact Ev.now _
  | d + 1, x, i, h, out, h0, h1, hi, ho => by
    obtain ⟨v, i1, h1', e, v0, v1, hi1⟩ := below_some l hl i h hi (x + 1) (by omega) (by omega)
    obtain ⟨r, i', h', hr, hi'⟩ := drawp_l0 l hl n hn d (x + 1) i1 h1' (((out ++ [x]).set x.toNat (rd (out ++ [x]) v)).set v.toNat x) (by omega) (by omega) hi1 (by simp; omega)
    refine ⟨r, i', h', ev_up ?_, hi'⟩
    have hlen : ((out ++ [x]).length : Int) = x + 1 := by simp; omega
    simp only [spec_l02Draw.l0, if_pos (show x < n by omega), pw_wrap (a := x + 1) (by omega) (by omega), e, Option.bind_some, if_pos (show out.length < 17592186044416 by omega), if_pos v0, if_pos (show v < ((out ++ [x]).length : Int) by omega), if_pos h0, if_pos (show x < ((out ++ [x]).length : Int) by omega)]
    exact hr
theorem draw_some (l : List Int) (hl : l.length ≤ 4611686018427387904) (n : Int) (h0 : 0 ≤ n) (hn : n ≤ 200) (i h : Int) (hi : 0 ≤ i) : ∃ r i' h', Ev (fun k => spec_l02Draw.f k l i h n) (r, i', h') ∧ 0 ≤ i' :=
  drawp_l0 l hl n hn n.toNat 0 i h [] (by omega) (by omega) hi rfl
theorem surf_l0 (l : List Int) (hl : l.length ≤ 4611686018427387904) (n : Nat) (hn : n < 5) : ∀ (d : Nat) (x i h : Int), 0 ≤ x → x + d = 8 → 0 ≤ i → ∃ r u i' h', Ev (fun k => spec_l03Draw.l0 k ((n + 1 : Nat) : Int) x l i h) (r, u, i', h') ∧ transB r u = true
  | 0, x, i, h, h0, h1, hi => by
    refine ⟨_, _, i, h, ev_up ?_, ell_ok (b := 0) hn (by omega)⟩
    simp only [spec_l03Draw.l0, if_neg (show ¬ x < 8 by omega)]
    refine Ev.bind (ell_ev (b := 0) hn (by omega)) ?_
    exact Ev.now _
  | d + 1, x, i, h, h0, h1, hi => by
    obtain ⟨r, i1, h1', e1, hi1⟩ := draw_some l hl ((n + 1 : Nat) : Int) (by omega) (by omega) i h hi
    obtain ⟨u, i2, h2', e2, hi2⟩ := draw_some l hl ((n + 1 : Nat) : Int) (by omega) (by omega) i1 h1' hi1
    by_cases ht : transB r u = true
    · refine ⟨r, u, i2, h2', ev_up ?_, ht⟩
      simp only [spec_l03Draw.l0, if_pos (show x < 8 by omega)]
      refine Ev.bind e1 ?_
      refine Ev.bind e2 ?_
      refine Ev.bind (spec_surfOk r u) ?_
      simp only [if_pos ht]
      exact Ev.now _
    · obtain ⟨r', u', i', h', hr, ht'⟩ := surf_l0 l hl n hn d (x + 1) i2 h2' (by omega) (by omega) hi2
      refine ⟨r', u', i', h', ev_up ?_, ht'⟩
      simp only [spec_l03Draw.l0, if_pos (show x < 8 by omega), pw_wrap (a := x + 1) (by omega) (by omega)]
      refine Ev.bind e1 ?_
      refine Ev.bind e2 ?_
      refine Ev.bind (spec_surfOk r u) ?_
      simp only [if_neg ht]
      exact hr
theorem surface_some (l : List Int) (hl : l.length ≤ 4611686018427387904) : ∃ r u, Ev (fun k => spec_MakeSurface.f k l) (r, u) ∧ transB r u = true := by
  obtain ⟨h, e⟩ := new_some l hl
  obtain ⟨v, i1, h1, e1, v0, v1, hi1⟩ := below_some l hl 0 h (Int.le_refl 0) 4 (by omega) (by omega)
  unfold spec_MakeSurface.f
  by_cases c0 : v = 0
  · obtain ⟨a, i2, h2, e2, a0, a1, hi2⟩ := below_some l hl i1 h1 hi1 4 (by omega) (by omega)
    obtain ⟨b, i3, h3, e3, b0, b1, hi3⟩ := below_some l hl i2 h2 hi2 3 (by omega) (by omega)
    obtain ⟨c, i4, h4, e4, c0', c1, hi4⟩ := below_some l hl i3 h3 hi3 4 (by omega) (by omega)
    have ea : (1 + a : Int) = ((a.toNat + 1 : Nat) : Int) := by omega
    have eb : (1 + b : Int) = ((b.toNat + 1 : Nat) : Int) := by omega
    have ec : c = ((c.toNat : Nat) : Int) := by omega
    have wa : wrap64 (1 + a) = 1 + a := pw_wrap (by omega) (by omega)
    have wb : wrap64 (1 + b) = 1 + b := pw_wrap (by omega) (by omega)
    refine ⟨_, _, Ev.bind e ?_, torus_ok (w := a.toNat) (h := b.toNat) (c := c.toNat) (by omega) (by omega) (by omega)⟩
    simp only [e1, Option.bind_some, if_pos c0, e2, e3, e4, wa, wb]
    rw [ea, eb]
    refine Ev.bind (torus_ev (w := a.toNat) (h := b.toNat) (by omega) (by omega)) ?_
    rw [ec]
    exact sheared_ev c.toNat (torusP (a.toNat + 1) (b.toNat + 1)) (fun d hd => torus_ok (by omega) (by omega) (by omega)) (by omega)
  · by_cases c1 : v = 1
    · obtain ⟨a, i2, h2, e2, a0, a1, hi2⟩ := below_some l hl i1 h1 hi1 4 (by omega) (by omega)
      obtain ⟨b, i3, h3, e3, b0, b1, hi3⟩ := below_some l hl i2 h2 hi2 4 (by omega) (by omega)
      have ea : (1 + a : Int) = ((a.toNat + 1 : Nat) : Int) := by omega
      have eb : (1 + b : Int) = ((b.toNat + 1 : Nat) : Int) := by omega
      have wa : wrap64 (1 + a) = 1 + a := pw_wrap (by omega) (by omega)
      have wb : wrap64 (1 + b) = 1 + b := pw_wrap (by omega) (by omega)
      refine ⟨_, _, Ev.bind e ?_, ell_ok (a := a.toNat) (b := b.toNat) (by omega) (by omega)⟩
      simp only [e1, Option.bind_some, if_neg c0, if_pos c1, e2, e3, wa, wb]
      rw [ea, eb]
      refine Ev.bind (ell_ev (a := a.toNat) (b := b.toNat) (by omega) (by omega)) ?_
      exact Ev.now _
    · obtain ⟨a, i2, h2, e2, a0, a1, hi2⟩ := below_some l hl i1 h1 hi1 5 (by omega) (by omega)
      have ea : (1 + a : Int) = ((a.toNat + 1 : Nat) : Int) := by omega
      have wa : wrap64 (1 + a) = 1 + a := pw_wrap (by omega) (by omega)
      obtain ⟨r, u, i', h', hr, ht⟩ := surf_l0 l hl a.toNat (by omega) 8 0 i2 h2 (by omega) (by omega) hi2
      refine ⟨r, u, Ev.bind e ?_, ht⟩
      simp only [e1, Option.bind_some, if_neg c0, if_neg c1]
      unfold spec_l03Draw.f
      simp only [e2, Option.bind_some, wa]
      rw [ea]
      refine Ev.bind hr ?_
      exact Ev.now _

/-- The place of the first x, or -1. -/
def idxGo (x : Int) : List Int → Int → Int
  | [], _ => -1
  | c :: cs, i => if c = x then i else idxGo x cs (i + 1)
theorem impl_index_l0 (l : List Int) (hl : l.length ≤ 4611686018427387904) (x : Int) : ∀ (suf pre : List Int), l = pre ++ suf →
    Ev (fun k => slices_Index_int_int.l0 k l x (l.length : Int) (pre.length : Int)) (idxGo x suf pre.length) := by
  intro suf
  induction suf with
  | nil =>
    intro pre h
    subst h
    refine ev_up ?_
    simp only [slices_Index_int_int.l0, if_neg (nlt_end pre)]
    exact Ev.now _
  | cons c suf ih =>
    intro pre h
    have := ih (pre ++ [c]) (by simp [h])
    subst h
    refine ev_up ?_
    by_cases hc : c = x
    · simp only [slices_Index_int_int.l0, if_pos (lt_mid pre suf c), if_pos (Int.natCast_nonneg pre.length), rd_mid, if_pos hc.symm]
      rw [idxGo, if_pos hc]
      exact Ev.now _
    · simp only [slices_Index_int_int.l0, if_pos (lt_mid pre suf c), if_pos (Int.natCast_nonneg pre.length), rd_mid, if_neg (Ne.symm hc), wrap_snoc hl]
      rw [idxGo, if_neg hc, show (pre.length : Int) + 1 = ((pre ++ [c]).length : Int) by simp]
      exact this
theorem impl_index (l : List Int) (hl : l.length ≤ 4611686018427387904) (x : Int) : Ev (fun k => slices_Index_int_int.f k l x) (idxGo x l 0) := impl_index_l0 l hl x l [] rfl
theorem idx_mem (x : Int) : ∀ (l : List Int) (i : Int), 0 ≤ i → (decide (idxGo x l i ≥ 0) = decide (x ∈ l))
  | [], i, _ => by simp [idxGo]
  | c :: cs, i, h => by
    by_cases hc : c = x
    · simp [idxGo, hc, h]
    · rw [idxGo, if_neg hc, idx_mem x cs (i + 1) (by omega)]
      simp [Ne.symm hc]
theorem impl_contains (l : List Int) (hl : l.length ≤ 4611686018427387904) (x : Int) : Ev (fun k => slices_Contains_int_int.f k l x) (decide (x ∈ l)) := by
  unfold slices_Contains_int_int.f
  refine Ev.bind (impl_index l hl x) ?_
  simp only [idx_mem x l 0 (Int.le_refl 0)]
  exact Ev.now _

/-! Cells of a table: the law's, and the program's. -/
theorem rdT_mid (p s : List S38) (x : S38) : rd_T38 (p ++ x :: s) (p.length : Int) = x := by simp [rd_T38, List.getD]
abbrev Cl := S38
/-- The place of the first cell with these coordinates, or -1. -/
def cellGo (x y : Int) : List Cl → Int → Int
  | [], _ => -1
  | c :: cs, i => if c.f0 = x ∧ c.f1 = y then i else cellGo x y cs (i + 1)
def cellAt (l : List Cl) (x y : Int) : Int := cellGo x y l 0
theorem spec_CellAt_l0 (l : List Cl) (hl : l.length ≤ 1048576) (x y : Int) : ∀ (suf pre : List Cl), l = pre ++ suf →
    Ev (fun k => spec_CellAt.l0 k x y l (l.length : Int) (pre.length : Int)) (cellGo x y suf pre.length) := by
  intro suf
  induction suf with
  | nil =>
    intro pre h
    subst h
    refine ⟨1, fun k hk => ?_⟩
    obtain ⟨k, rfl⟩ : ∃ m, k = m + 1 := ⟨k - 1, by omega⟩
    simp only [spec_CellAt.l0]
    rw [if_neg (nlt_end pre)]
    rfl
  | cons c suf ih =>
    intro pre h
    have := ih (pre ++ [c]) (by simp [h])
    subst h
    by_cases hc : c.f0 = x ∧ c.f1 = y
    · refine Ev.step (f := fun _ => some ((pre.length : Nat) : Int)) (fun k => ?_) (by rw [cellGo, if_pos hc]; exact Ev.now _)
      simp only [spec_CellAt.l0]
      rw [if_pos (lt_mid pre suf c), if_pos (Int.natCast_nonneg _), if_pos (lt_mid pre suf c), rdT_mid, if_pos hc.1, if_pos hc.2]
    · rw [cellGo, if_neg hc]
      rw [show ((pre ++ [c]).length : Int) = (pre.length : Int) + 1 by simp] at this
      refine Ev.step (fun k => ?_) this
      simp only [spec_CellAt.l0]
      rw [if_pos (lt_mid pre suf c), if_pos (Int.natCast_nonneg _), if_pos (lt_mid pre suf c), rdT_mid, wrap_snoc (x := c) (s := suf) (by simp at hl ⊢; omega)]
      by_cases h1 : c.f0 = x
      · rw [if_pos h1, if_neg (fun h2 => hc ⟨h1, h2⟩)]; simp
      · rw [if_neg h1]; simp
theorem spec_CellAt_ev (l : List Cl) (hl : l.length ≤ 1048576) (x y : Int) : Ev (fun k => spec_CellAt.f k l x y) (cellAt l x y) := spec_CellAt_l0 l hl x y l [] rfl
theorem impl_Index_l0 (l : List Cl) (hl : l.length ≤ 1048576) (x y : Int) : ∀ (suf pre : List Cl), l = pre ++ suf →
    Ev (fun k => impl_Cell.l0 k l (l.length : Int) (pre.length : Int) x y) (cellGo x y suf pre.length) := by
  intro suf
  induction suf with
  | nil =>
    intro pre h
    subst h
    refine ⟨1, fun k hk => ?_⟩
    obtain ⟨k, rfl⟩ : ∃ m, k = m + 1 := ⟨k - 1, by omega⟩
    simp only [impl_Cell.l0]
    rw [if_neg (nlt_end pre)]
    rfl
  | cons c suf ih =>
    intro pre h
    have := ih (pre ++ [c]) (by simp [h])
    subst h
    by_cases hc : c.f0 = x ∧ c.f1 = y
    · refine Ev.step (f := fun _ => some ((pre.length : Nat) : Int)) (fun k => ?_) (by rw [cellGo, if_pos hc]; exact Ev.now _)
      simp only [impl_Cell.l0]
      rw [if_pos (lt_mid pre suf c), if_pos (Int.natCast_nonneg _), if_pos (lt_mid pre suf c), rdT_mid, hc.1, hc.2]
      simp
    · rw [cellGo, if_neg hc]
      rw [show ((pre ++ [c]).length : Int) = (pre.length : Int) + 1 by simp] at this
      refine Ev.step (fun k => ?_) this
      simp only [impl_Cell.l0]
      rw [if_pos (lt_mid pre suf c), if_pos (Int.natCast_nonneg _), if_pos (lt_mid pre suf c), rdT_mid, wrap_snoc (x := c) (s := suf) (by simp at hl ⊢; omega)]
      rw [if_neg (by simp; exact fun h1 h2 => hc ⟨h1.symm, h2.symm⟩)]
      simp
theorem impl_CellAt_ev (l : List Cl) (hl : l.length ≤ 1048576) (x y : Int) : Ev (fun k => impl_CellAt.f k l x y) (cellAt l x y) := by
  refine Ev.bind (impl_Index_l0 l hl x y l [] rfl) ?_
  exact Ev.now _

theorem cellGo_bd (x y : Int) : ∀ (l : List Cl) (i : Int), cellGo x y l i = -1 ∨ (i ≤ cellGo x y l i ∧ cellGo x y l i < i + l.length)
  | [], i => .inl rfl
  | c :: cs, i => by
    rw [cellGo]
    split
    · right; simp; omega
    · rcases cellGo_bd x y cs (i + 1) with h | ⟨h1, h2⟩
      · exact .inl h
      · right; simp; omega
theorem cellAt_bd (l : List Cl) (x y : Int) : -1 ≤ cellAt l x y ∧ cellAt l x y < l.length := by
  unfold cellAt
  rcases cellGo_bd x y l 0 with h | ⟨h1, h2⟩ <;> omega
/-- The neighbours of a cell: right, left, up, down; -1 where there is none. -/
def nbrs (l : List Cl) (i : Int) : List Int :=
  [cellAt l ((rd_T38 l i).f0 + 1) (rd_T38 l i).f1, cellAt l ((rd_T38 l i).f0 + -1) (rd_T38 l i).f1, cellAt l (rd_T38 l i).f0 ((rd_T38 l i).f1 + 1), cellAt l (rd_T38 l i).f0 ((rd_T38 l i).f1 + -1)]
theorem nbrs_lt (l : List Cl) (i : Int) : ∀ k ∈ nbrs l i, k < (l.length : Int) := by
  intro k hk
  simp only [nbrs, List.mem_cons, List.not_mem_nil, or_false] at hk
  rcases hk with rfl | rfl | rfl | rfl <;> exact (cellAt_bd ..).2
/-- The cells lie where tables lie. -/
def Near0 (l : List Cl) : Prop := ∀ c ∈ l, 0 ≤ c.f0 ∧ c.f0 ≤ 9 ∧ 0 ≤ c.f1 ∧ c.f1 ≤ 9
theorem near_rd {l : List Cl} (hv : Near0 l) {i : Int} (h0 : 0 ≤ i) (h1 : i < l.length) : 0 ≤ (rd_T38 l i).f0 ∧ (rd_T38 l i).f0 ≤ 9 ∧ 0 ≤ (rd_T38 l i).f1 ∧ (rd_T38 l i).f1 ≤ 9 := by
  have h : i.toNat < l.length := by omega
  have e : rd_T38 l i = l[i.toNat] := by simp [rd_T38, List.getD, h]
  rw [e]
  exact hv _ (List.getElem_mem h)
theorem impl_table_l2 (l : List Cl) (hl : l.length ≤ 6) (x6 : Int) (hx : 0 ≤ x6 ∧ x6 ≤ 1000) (ys : List Int) (hy : ys.length ≤ 1000) (r : Bool) : ∀ (suf pre q : List Int), ys = pre ++ suf → Few l.length q → (∀ k ∈ suf, k < (l.length : Int)) →
    Ev (fun k => impl_TableOk.l1 k l (pushAll q suf) (x6 + 1)) r → Ev (fun k => impl_TableOk.l2 k l q x6 ys (ys.length : Int) (pre.length : Int)) r := by
  intro suf
  induction suf with
  | nil =>
    intro pre q h hq hk hr
    subst h
    refine ev_up ?_
    simp only [impl_TableOk.l2, if_neg (nlt_end pre), pw_wrap (a := x6 + 1) (by omega) (by omega)]
    exact hr
  | cons c suf ih =>
    intro pre q h hq hk hr
    have hc := hk c (by simp)
    have hf := few_push hq hc
    have hi := ih (pre ++ [c]) (push q c) (by simp [h]) hf (fun k h' => hk k (by simp [h'])) hr
    subst h
    have hql := few_len hq
    refine ev_up ?_
    simp only [impl_TableOk.l2, if_pos (lt_mid pre suf c), if_pos (Int.natCast_nonneg pre.length), rd_mid, wrap_snoc (x := c) (s := suf) (p := pre) (by simp at hy ⊢; omega)]
    by_cases h0 : c ≥ 0
    · simp only [if_pos h0]
      refine Ev.bind (impl_contains q (by omega) c) ?_
      by_cases hm : c ∈ q
      · simp only [decide_eq_true hm, if_true]
        unfold push at hi
        rw [if_neg (fun h => h.2 hm)] at hi
        exact hi
      · simp only [decide_eq_false hm, Bool.false_eq_true, if_false, if_pos (show q.length < 17592186044416 by omega)]
        unfold push at hi
        rw [if_pos ⟨h0, hm⟩] at hi
        exact hi
    · simp only [if_neg h0]
      unfold push at hi
      rw [if_neg (fun h => h0 h.1)] at hi
      exact hi
/-- Everything is met from the first cell. -/
def whole (l : List Cl) (f : Nat) (q : List Int) (i : Nat) : Bool := ((bfs (nbrs l) f q i).length : Int) == (l.length : Int)
theorem impl_table_l1 (l : List Cl) (hl : l.length ≤ 6) (hv : Near0 l) : ∀ (f : Nat) (q : List Int) (i : Nat), Few l.length q → i ≤ q.length → f + i = l.length + 1 →
    Ev (fun k => impl_TableOk.l1 k l q (i : Int)) (whole l f q i) := by
  intro f
  induction f with
  | zero =>
    intro q i hq hi hf
    have := few_len hq
    omega
  | succ f ih =>
    intro q i hq hi hf
    have hql := few_len hq
    refine ev_up ?_
    by_cases h : i < q.length
    · have hx := hq.2 _ (List.getElem_mem h)
      have hr := near_rd hv hx.1 hx.2
      generalize hc : rd_T38 l q[i] = c at hr
      simp only [impl_TableOk.l1, if_pos (show ((i : Nat) : Int) < (q.length : Int) by omega), if_pos (Int.natCast_nonneg i), rd_get q i h, if_pos hx.1, if_pos hx.2, hc,
        pw_wrap (a := c.f0 + 1) (by omega) (by omega), pw_wrap (a := c.f0 - 1) (by omega) (by omega), pw_wrap (a := c.f1 + 1) (by omega) (by omega), pw_wrap (a := c.f1 - 1) (by omega) (by omega)]
      refine Ev.bind (impl_CellAt_ev l (by omega) _ _) ?_
      refine Ev.bind (impl_CellAt_ev l (by omega) _ _) ?_
      refine Ev.bind (impl_CellAt_ev l (by omega) _ _) ?_
      refine Ev.bind (impl_CellAt_ev l (by omega) _ _) ?_
      simp only [Option.bind_some]
      have hp := few_pushAll _ q hq (nbrs_lt l q[i])
      have := ih _ (i + 1) hp.1 (by have := hp.2; omega) (by omega)
      have := impl_table_l2 l hl i (by omega) (nbrs l q[i]) (by simp [nbrs]) _ _ [] q rfl hq (nbrs_lt l q[i]) this
      rw [whole, bfs, dif_pos h]
      unfold nbrs at this ⊢
      rw [hc] at this ⊢
      exact this
    · simp only [impl_TableOk.l1, if_neg (show ¬ ((i : Nat) : Int) < (q.length : Int) by omega)]
      rw [whole, bfs_done _ _ _ _ h]
      exact Ev.now _
/-- The cells lie in range, in ascending order of row and then column. -/
def vGo : Option Cl → List Cl → Bool
  | _, [] => true
  | none, c :: cs => decide (0 ≤ c.f0 ∧ c.f0 ≤ 9) && decide (0 ≤ c.f1 ∧ c.f1 ≤ 9) && vGo (some c) cs
  | some p, c :: cs => decide (0 ≤ c.f0 ∧ c.f0 ≤ 9) && decide (0 ≤ c.f1 ∧ c.f1 ≤ 9) && !decide (c.f1 < p.f1 ∨ c.f1 = p.f1 ∧ c.f0 ≤ p.f0) && vGo (some c) cs
theorem vGo_near : ∀ (p : Option Cl) (l : List Cl), vGo p l = true → Near0 l
  | _, [], _ => fun c hc => by simp at hc
  | none, c :: cs, h => by
    simp only [vGo, Bool.and_eq_true, decide_eq_true_eq] at h
    intro d hd
    rcases List.mem_cons.1 hd with rfl | hd
    · exact ⟨h.1.1.1, h.1.1.2, h.1.2.1, h.1.2.2⟩
    · exact vGo_near (some c) cs h.2 d hd
  | some p, c :: cs, h => by
    simp only [vGo, Bool.and_eq_true, decide_eq_true_eq] at h
    intro d hd
    rcases List.mem_cons.1 hd with rfl | hd
    · exact ⟨h.1.1.1.1, h.1.1.1.2, h.1.1.2.1, h.1.1.2.2⟩
    · exact vGo_near (some c) cs h.2 d hd
def tableB (l : List Cl) : Bool := decide (1 ≤ l.length ∧ l.length ≤ 6) && vGo none l && whole l (l.length + 1) [0] 0
theorem tableB_side {l : List Cl} (h : tableB l = true) : (1 ≤ l.length ∧ l.length ≤ 6) ∧ Near0 l ∧ vGo none l = true ∧ whole l (l.length + 1) [0] 0 = true := by
  simp only [tableB, Bool.and_eq_true, decide_eq_true_eq] at h
  exact ⟨h.1.1, vGo_near _ _ h.1.2, h.1.2, h.2⟩

theorem few_zero {n : Nat} (h : 1 ≤ n) : Few n [0] := ⟨by simp, fun x hx => by simp at hx; subst hx; omega⟩
theorem near_snoc {pre : List Cl} {c : Cl} (h : Near0 pre) (hc : 0 ≤ c.f0 ∧ c.f0 ≤ 9 ∧ 0 ≤ c.f1 ∧ c.f1 ≤ 9) : Near0 (pre ++ [c]) := by
  intro d hd
  rcases List.mem_append.1 hd with hd | hd
  · exact h d hd
  · simp at hd; subst hd; exact hc
theorem impl_table_l0 (l : List Cl) (hn : 1 ≤ l.length ∧ l.length ≤ 6) : ∀ (suf pre : List Cl), l = pre ++ suf → Near0 pre →
    Ev (fun k => impl_TableOk.l0 k l l (l.length : Int) (pre.length : Int)) (vGo pre.getLast? suf && whole l (l.length + 1) [0] 0) := by
  intro suf
  induction suf with
  | nil =>
    intro pre h hp
    refine ev_up ?_
    have hlen : ¬ ((pre.length : Nat) : Int) < (l.length : Int) := by rw [h]; simp
    simp only [impl_TableOk.l0, if_neg hlen]
    have hv : Near0 l := by rw [h]; simpa using hp
    have := impl_table_l1 l hn.2 hv (l.length + 1) [0] 0 (few_zero hn.1) (by simp) rfl
    cases hgl : pre.getLast? <;> simpa [vGo] using this
  | cons c suf ih =>
    intro pre h hp
    have hlt : ((pre.length : Nat) : Int) < (l.length : Int) := by rw [h]; exact lt_mid pre suf c
    have hrd : rd_T38 l (pre.length : Int) = c := by rw [h]; exact rdT_mid pre suf c
    have hw : wrap64 ((pre.length : Int) + 1) = ((pre ++ [c]).length : Int) := wrap_snoc (s := suf) (by rw [← h]; omega)
    have hbad : ∀ r : Bool, r = false → Ev (fun k => impl_TableOk.j2 k l (pre.length : Int) l (l.length : Int) (pre.length : Int) true c.f0 c.f1) r := by
      rintro r rfl
      refine ev_up ?_
      simp only [impl_TableOk.j2, if_true]
      exact Ev.now _
    refine ev_up ?_
    simp only [impl_TableOk.l0, if_pos hlt, if_pos (Int.natCast_nonneg pre.length), hrd]
    by_cases h1 : 0 ≤ c.f0 ∧ c.f0 ≤ 9
    · by_cases h2 : 0 ≤ c.f1 ∧ c.f1 ≤ 9
      · have hi := ih (pre ++ [c]) (by simp [h]) (near_snoc hp ⟨h1.1, h1.2, h2⟩)
        rw [List.getLast?_concat] at hi
        simp only [if_neg (show ¬ c.f0 < 0 by omega), if_neg (show ¬ c.f0 > 9 by omega), if_neg (show ¬ c.f1 < 0 by omega), decide_eq_false (show ¬ c.f1 > 9 by omega)]
        refine ev_up ?_
        simp only [impl_TableOk.j2, Bool.false_eq_true, if_false, hw]
        rcases nil_or_snoc pre with rfl | ⟨pre', p, rfl⟩
        · simp only [if_neg (show ¬ (([] : List Cl).length : Int) > 0 by simp)]
          simpa [vGo, h1, h2] using hi
        · have hlen : ((pre' ++ [p]).length : Int) = (pre'.length : Int) + 1 := by simp
          rw [hlen] at hlt
          have hw2 : wrap64 (((pre' ++ [p]).length : Int) - 1) = (pre'.length : Int) := by rw [hlen]; unfold wrap64; omega
          have hrp : rd_T38 l (pre'.length : Int) = p := by rw [h, List.append_assoc]; exact rdT_mid pre' _ p
          simp only [if_pos (show ((pre' ++ [p]).length : Int) > 0 by rw [hlen]; omega), hw2, if_pos (Int.natCast_nonneg pre'.length), if_pos (show ((pre'.length : Nat) : Int) < (l.length : Int) by omega), hrp]
          rw [List.getLast?_concat]
          by_cases h3 : c.f1 < p.f1
          · simp only [if_pos h3]
            simpa [vGo, h3] using Ev.now false
          · by_cases h4 : c.f1 = p.f1
            · by_cases h5 : c.f0 ≤ p.f0
              · simp only [if_neg h3, if_pos h4, if_pos h5]
                simpa [vGo, h4, h5] using Ev.now false
              · simp only [if_neg h3, if_pos h4, if_neg h5]
                have e : (decide (c.f1 < p.f1 ∨ c.f1 = p.f1 ∧ c.f0 ≤ p.f0)) = false := decide_eq_false (by omega)
                simp only [vGo, decide_eq_true h1, decide_eq_true h2, e, Bool.not_false, Bool.true_and]
                exact hi
            · simp only [if_neg h3, if_neg h4]
              have e : (decide (c.f1 < p.f1 ∨ c.f1 = p.f1 ∧ c.f0 ≤ p.f0)) = false := decide_eq_false (by omega)
              simp only [vGo, decide_eq_true h1, decide_eq_true h2, e, Bool.not_false, Bool.true_and]
              exact hi
      · have e : vGo pre.getLast? (c :: suf) = false := by cases pre.getLast? <;> simp only [vGo, decide_eq_false h2, Bool.and_false, Bool.false_and]
        simp only [if_neg (show ¬ c.f0 < 0 by omega), if_neg (show ¬ c.f0 > 9 by omega)]
        by_cases h3 : c.f1 < 0
        · simp only [if_pos h3]
          exact hbad _ (by rw [e]; rfl)
        · simp only [if_neg h3, decide_eq_true (show c.f1 > 9 by omega)]
          exact hbad _ (by rw [e]; rfl)
    · have e : vGo pre.getLast? (c :: suf) = false := by cases pre.getLast? <;> simp only [vGo, decide_eq_false h1, Bool.false_and]
      by_cases h3 : c.f0 < 0
      · simp only [if_pos h3]
        exact hbad _ (by rw [e]; rfl)
      · simp only [if_neg h3, if_pos (show c.f0 > 9 by omega)]
        exact hbad _ (by rw [e]; rfl)
theorem impl_table (l : List Cl) : Ev (fun k => impl_TableOk.f k l) (tableB l) := by
  unfold impl_TableOk.f tableB
  by_cases h1 : (l.length : Int) < 1
  · simp only [if_pos h1, decide_eq_false (show ¬ (1 ≤ l.length ∧ l.length ≤ 6) by omega), Bool.false_and]
    refine ev_up ?_
    simp only [impl_TableOk.j0, if_true]
    exact Ev.now _
  · simp only [if_neg h1]
    refine ev_up ?_
    by_cases h2 : l.length ≤ 6
    · simp only [impl_TableOk.j0, decide_eq_false (show ¬ (l.length : Int) > 6 by omega), Bool.false_eq_true, if_false, decide_eq_true (show 1 ≤ l.length ∧ l.length ≤ 6 by omega), Bool.true_and]
      exact impl_table_l0 l (by omega) l [] rfl (fun c hc => by simp at hc)
    · simp only [impl_TableOk.j0, decide_eq_true (show (l.length : Int) > 6 by omega), if_true, decide_eq_false (show ¬ (1 ≤ l.length ∧ l.length ≤ 6) by omega), Bool.false_and]
      exact Ev.now _

/-- The values of g at d places from x on. -/
def vals (g : Int → Int) : Nat → Int → List Int
  | 0, _ => []
  | d + 1, x => g x :: vals g d (x + 1)
theorem vals_len (g : Int → Int) : ∀ (d : Nat) (x : Int), (vals g d x).length = d
  | 0, _ => rfl
  | d + 1, x => by simp [vals, vals_len g d]
theorem vGo_gt : ∀ (cs : List Cl) (p : Cl), vGo (some p) cs = true → ∀ c ∈ cs, p.f1 < c.f1 ∨ p.f1 = c.f1 ∧ p.f0 < c.f0
  | [], _, _ => fun c hc => by simp at hc
  | d :: cs, p, h => by
    simp only [vGo, Bool.and_eq_true, Bool.not_eq_true', decide_eq_false_iff_not] at h
    have hd : p.f1 < d.f1 ∨ p.f1 = d.f1 ∧ p.f0 < d.f0 := by have := h.1.2; omega
    intro c hc
    rcases List.mem_cons.1 hc with rfl | hc
    · exact hd
    · have := vGo_gt cs d h.2 c hc
      omega
theorem vGo_tail {o : Option Cl} {c : Cl} {cs : List Cl} (h : vGo o (c :: cs) = true) : vGo (some c) cs = true := by
  cases o with
  | none => simp only [vGo, Bool.and_eq_true] at h; exact h.2
  | some p => simp only [vGo, Bool.and_eq_true] at h; exact h.2
theorem cellGo_at : ∀ (l : List Cl) (o : Option Cl) (s : Int), vGo o l = true → ∀ (j : Nat) (h : j < l.length), cellGo l[j].f0 l[j].f1 l s = s + j
  | [], _, _, _, j, h => absurd h (by simp)
  | c :: cs, o, s, hv, 0, _ => by simp [cellGo]
  | c :: cs, o, s, hv, j + 1, h => by
    have ht := vGo_tail hv
    have hj : j < cs.length := by simpa using h
    have hg := vGo_gt cs c ht _ (List.getElem_mem hj)
    simp only [List.getElem_cons_succ, cellGo]
    rw [if_neg (by omega), cellGo_at cs (some c) (s + 1) ht j hj]
    omega
theorem rdT_get (l : List Cl) (j : Nat) (h : j < l.length) : rd_T38 l (j : Int) = l[j] := by simp [rd_T38, List.getD, h]
theorem cellAt_self {l : List Cl} (hv : vGo none l = true) {i : Int} (h0 : 0 ≤ i) (h1 : i < l.length) : cellAt l (rd_T38 l i).f0 (rd_T38 l i).f1 = i := by
  obtain ⟨n, rfl⟩ := Int.eq_ofNat_of_zero_le h0
  have hn : n < l.length := by omega
  rw [rdT_get l n hn]
  unfold cellAt
  rw [cellGo_at l none 0 hv n hn]
  omega
theorem mem_push {q : List Int} {x : Int} (k : Int) (h : x ∈ q) : x ∈ push q k := by
  unfold push
  split
  · exact List.mem_append_left _ h
  · exact h
theorem mem_pushAll {x : Int} : ∀ (ks q : List Int), x ∈ q → x ∈ pushAll q ks
  | [], _, h => h
  | k :: ks, q, h => mem_pushAll ks (push q k) (mem_push k h)
theorem push_mem {q : List Int} {k : Int} (h : 0 ≤ k) : k ∈ push q k := by
  unfold push
  by_cases hk : k ∈ q
  · rw [if_neg (fun z => z.2 hk)]
    exact hk
  · rw [if_pos ⟨h, hk⟩]
    simp
theorem pushAll_mem {k : Int} (h0 : 0 ≤ k) : ∀ (ks q : List Int), k ∈ ks → k ∈ pushAll q ks
  | [], _, h => absurd h (by simp)
  | c :: ks, q, h => by
    rcases List.mem_cons.1 h with rfl | h
    · exact mem_pushAll ks _ (push_mem h0)
    · exact pushAll_mem h0 ks (push q c) h
theorem pushAll_pre : ∀ (ks q : List Int), ∃ s, pushAll q ks = q ++ s
  | [], q => ⟨[], by simp [pushAll]⟩
  | k :: ks, q => by
    obtain ⟨s, hs⟩ := pushAll_pre ks (push q k)
    have e : pushAll q (k :: ks) = pushAll (push q k) ks := rfl
    rw [e, hs]
    unfold push
    split
    · exact ⟨k :: s, by simp⟩
    · exact ⟨s, rfl⟩
theorem bfs_pre (nb : Int → List Int) : ∀ (f : Nat) (q : List Int) (i : Nat), ∃ s, bfs nb f q i = q ++ s
  | 0, q, i => ⟨[], by simp [bfs]⟩
  | f + 1, q, i => by
    rw [bfs]
    split
    · rename_i h
      obtain ⟨s, hs⟩ := pushAll_pre (nb q[i]) q
      obtain ⟨s', hs'⟩ := bfs_pre nb f (pushAll q (nb q[i])) (i + 1)
      exact ⟨s ++ s', by rw [hs', hs, List.append_assoc]⟩
    · exact ⟨[], by simp⟩
/-- What is met is closed. -/
theorem bfs_closed {n : Nat} (nb : Int → List Int) (hnb : ∀ x : Int, 0 ≤ x → x < (n : Int) → ∀ k ∈ nb x, k < (n : Int)) : ∀ (f : Nat) (q : List Int) (i : Nat), Few n q → f + i = n + 1 → (∀ j (h : j < q.length), j < i → ∀ k ∈ nb q[j], 0 ≤ k → k ∈ q) →
    ∀ x ∈ bfs nb f q i, ∀ k ∈ nb x, 0 ≤ k → k ∈ bfs nb f q i
  | 0, q, i, hq, hf, hc => by
    intro x hx k hk h0
    have e : bfs nb 0 q i = q := rfl
    rw [e] at hx ⊢
    obtain ⟨j, hj, rfl⟩ := List.getElem_of_mem hx
    have := few_len hq
    exact hc j hj (by omega) k hk h0
  | f + 1, q, i, hq, hf, hc => by
    rw [bfs]
    split
    · rename_i h
      have hr := hq.2 _ (List.getElem_mem h)
      have hp := few_pushAll (nb q[i]) q hq (hnb _ hr.1 hr.2)
      refine bfs_closed nb hnb f _ (i + 1) hp.1 (by omega) ?_
      intro j hj hji k hk h0
      obtain ⟨s, hs⟩ := pushAll_pre (nb q[i]) q
      have hjq : j < q.length := by omega
      have e : (pushAll q (nb q[i]))[j] = q[j] := by simp [hs, List.getElem_append_left hjq]
      rw [e] at hk
      by_cases hji2 : j = i
      · subst hji2
        exact pushAll_mem h0 _ _ hk
      · exact mem_pushAll _ _ (hc j hjq (by omega) k hk h0)
    · rename_i h
      intro x hx k hk h0
      obtain ⟨j, hj, rfl⟩ := List.getElem_of_mem hx
      exact hc j hj (by omega) k hk h0
abbrev cx (l : List Cl) (i : Int) : Int := (rd_T38 l i).f0
abbrev cy (l : List Cl) (i : Int) : Int := (rd_T38 l i).f1
theorem mem_vals (g : Int → Int) (y : Int) : ∀ (d : Nat) (s : Int), y ∈ vals g d s ↔ ∃ x, s ≤ x ∧ x < s + d ∧ y = g x
  | 0, s => by
    simp only [vals, List.not_mem_nil, false_iff]
    rintro ⟨x, h0, h1, _⟩
    omega
  | d + 1, s => by
    rw [vals, List.mem_cons, mem_vals g y d (s + 1)]
    constructor
    · rintro (rfl | ⟨x, h0, h1, rfl⟩)
      · exact ⟨s, by omega, by omega, rfl⟩
      · exact ⟨x, by omega, by omega, rfl⟩
    · rintro ⟨x, h0, h1, rfl⟩
      by_cases hx : x = s
      · exact .inl (by rw [hx])
      · exact .inr ⟨x, by omega, by omega, rfl⟩
theorem vals_nodup (g : Int → Int) : ∀ (d : Nat) (s : Int), (∀ x y, s ≤ x → x < s + d → s ≤ y → y < s + d → g x = g y → x = y) → (vals g d s).Nodup
  | 0, _, _ => List.nodup_nil
  | d + 1, s, h => by
    rw [vals, List.nodup_cons]
    refine ⟨fun hm => ?_, vals_nodup g d (s + 1) (fun x y a b c e he => h x y (by omega) (by omega) (by omega) (by omega) he)⟩
    obtain ⟨x, h0, h1, e⟩ := (mem_vals g _ d (s + 1)).1 hm
    have := h s x (by omega) (by omega) (by omega) (by omega) e
    omega
theorem sub_len : ∀ (l m : List Int), l.Nodup → (∀ x ∈ l, x ∈ m) → l.length ≤ m.length
  | [], _, _, _ => by simp
  | x :: l, m, hn, h => by
    have hn2 := List.nodup_cons.1 hn
    have := sub_len l (m.erase x) hn2.2 (fun y hy => (List.mem_erase_of_ne (fun (e : y = x) => hn2.1 (by rw [← e]; exact hy))).2 (h y (List.mem_cons_of_mem _ hy)))
    have hm := h x List.mem_cons_self
    rw [List.length_erase_of_mem hm] at this
    have := List.length_pos_of_mem hm
    simp only [List.length_cons]
    omega
def ltC (p c : Cl) : Prop := p.f1 < c.f1 ∨ p.f1 = c.f1 ∧ p.f0 < c.f0
theorem vGo_of : ∀ (l : List Cl) (o : Option Cl), Near0 l → l.Pairwise ltC → (∀ p, o = some p → ∀ c ∈ l, ltC p c) → vGo o l = true
  | [], o, _, _, _ => by cases o <;> rfl
  | c :: cs, o, hn, hp, ho => by
    have hc := hn c (by simp)
    have hp2 := List.pairwise_cons.1 hp
    have ih := vGo_of cs (some c) (fun d hd => hn d (by simp [hd])) hp2.2 (fun p e d hd => by cases e; exact hp2.1 d hd)
    cases o with
    | none => simp only [vGo, decide_eq_true (show 0 ≤ c.f0 ∧ c.f0 ≤ 9 from ⟨hc.1, hc.2.1⟩), decide_eq_true (show 0 ≤ c.f1 ∧ c.f1 ≤ 9 from ⟨hc.2.2.1, hc.2.2.2⟩), ih, Bool.and_self]
    | some p =>
      have h := ho p rfl c (by simp)
      unfold ltC at h
      simp only [vGo, decide_eq_true (show 0 ≤ c.f0 ∧ c.f0 ≤ 9 from ⟨hc.1, hc.2.1⟩), decide_eq_true (show 0 ≤ c.f1 ∧ c.f1 ≤ 9 from ⟨hc.2.2.1, hc.2.2.2⟩), ih, decide_eq_false (show ¬ (c.f1 < p.f1 ∨ c.f1 = p.f1 ∧ c.f0 ≤ p.f0) by omega), Bool.not_false, Bool.and_self]
theorem insert_l0 (x : Cl) : ∀ (n : Nat) (l1 l2 : List Cl), l1.length = n → l1.length + l2.length ≤ 100 → (∀ c ∈ l2, ltC x c) →
    ∃ m1 m2, Ev (fun k => spec_l15Insert.l0 k (l1 ++ x :: l2) (l1.length : Int) x.f0 x.f1) (m1 ++ x :: m2) ∧ m1 ++ m2 = l1 ++ l2 ∧ (∀ c ∈ m2, ltC x c) ∧ (∀ q p, m1 = q ++ [p] → ¬ ltC x p)
  | 0, l1, l2, hn, hl, h2 => by
    have : l1 = [] := List.eq_nil_of_length_eq_zero hn
    subst this
    refine ⟨[], l2, ev_up ?_, rfl, h2, fun q p e => by simp at e⟩
    simp only [spec_l15Insert.l0, List.length_nil, Int.natCast_zero, if_neg (show ¬ (0 : Int) > 0 by omega)]
    exact Ev.now _
  | n + 1, l1, l2, hn, hl, h2 => by
    rcases nil_or_snoc l1 with rfl | ⟨q, p, rfl⟩
    · simp at hn
    · have hq : q.length = n := by simpa using hn
      have hlen : ((q ++ [p]).length : Int) = (q.length : Int) + 1 := by simp
      simp only [List.length_append, List.length_cons, List.length_nil] at hl
      have hw : wrap64 ((q.length : Int) + 1 - 1) = (q.length : Int) := by rw [pw_wrap (by omega) (by omega)]; omega
      have hall : (((q ++ [p]) ++ x :: l2).length : Int) = (q.length : Int) + l2.length + 2 := by simp; omega
      have hr : rd_T38 ((q ++ [p]) ++ x :: l2) (q.length : Int) = p := by
        rw [List.append_assoc]
        exact rdT_mid q (x :: l2) p
      have hset : (((q ++ [p]) ++ x :: l2).set ((q.length : Int) + 1).toNat p).set ((q.length : Int)).toNat x = q ++ x :: p :: l2 := by
        rw [show ((q.length : Int) + 1).toNat = (q ++ [p]).length from by rw [List.length_append]; simp only [List.length_cons, List.length_nil]; omega, show ((q.length : Int)).toNat = q.length from by omega]
        simp
      have go : ltC x p → ∃ m1 m2, Ev (fun k => spec_l15Insert.l0 k (q ++ x :: p :: l2) (q.length : Int) x.f0 x.f1) (m1 ++ x :: m2) ∧ m1 ++ m2 = (q ++ [p]) ++ l2 ∧ (∀ c ∈ m2, ltC x c) ∧ (∀ q p, m1 = q ++ [p] → ¬ ltC x p) := fun hlt => by
        obtain ⟨m1, m2, h, e, a, b⟩ := insert_l0 x n q (p :: l2) hq (by simp; omega) (fun c hc => by
          rcases List.mem_cons.1 hc with rfl | hc
          · exact hlt
          · exact h2 c hc)
        exact ⟨m1, m2, h, by rw [e]; simp, a, b⟩
      have stop : ¬ ltC x p → ∀ q' p', (q ++ [p]) = q' ++ [p'] → ¬ ltC x p' := fun hn q' p' e => by
        have := (List.append_inj' e rfl).2
        simp only [List.cons.injEq, and_true] at this
        rw [← this]
        exact hn
      by_cases h3 : p.f1 > x.f1
      · obtain ⟨m1, m2, h, e, a, b⟩ := go (.inl h3)
        refine ⟨m1, m2, ev_up ?_, e, a, b⟩
        simp only [spec_l15Insert.l0, hlen, if_pos (show (q.length : Int) + 1 > 0 by omega), hw, if_pos (Int.natCast_nonneg q.length), hall, if_pos (show (q.length : Int) < (q.length : Int) + l2.length + 2 by omega), hr, if_pos h3, if_pos (show 0 ≤ (q.length : Int) + 1 by omega), if_pos (show (q.length : Int) + 1 < (q.length : Int) + l2.length + 2 by omega)]
        rw [show (⟨p.f0, p.f1⟩ : Cl) = p from rfl, show (⟨x.f0, x.f1⟩ : Cl) = x from rfl, hset]
        exact h
      · by_cases h4 : p.f1 = x.f1
        · by_cases h5 : p.f0 > x.f0
          · obtain ⟨m1, m2, h, e, a, b⟩ := go (.inr ⟨h4.symm, h5⟩)
            refine ⟨m1, m2, ev_up ?_, e, a, b⟩
            simp only [spec_l15Insert.l0, hlen, if_pos (show (q.length : Int) + 1 > 0 by omega), hw, if_pos (Int.natCast_nonneg q.length), hall, if_pos (show (q.length : Int) < (q.length : Int) + l2.length + 2 by omega), hr, if_neg h3, if_pos h4, if_pos h5, if_pos (show 0 ≤ (q.length : Int) + 1 by omega), if_pos (show (q.length : Int) + 1 < (q.length : Int) + l2.length + 2 by omega)]
            rw [show (⟨p.f0, p.f1⟩ : Cl) = p from rfl, show (⟨x.f0, x.f1⟩ : Cl) = x from rfl, hset]
            exact h
          · refine ⟨q ++ [p], l2, ev_up ?_, rfl, h2, stop (by unfold ltC; omega)⟩
            simp only [spec_l15Insert.l0, hlen, if_pos (show (q.length : Int) + 1 > 0 by omega), hw, if_pos (Int.natCast_nonneg q.length), hall, if_pos (show (q.length : Int) < (q.length : Int) + l2.length + 2 by omega), hr, if_neg h3, if_pos h4, if_neg h5]
            exact Ev.now _
        · refine ⟨q ++ [p], l2, ev_up ?_, rfl, h2, stop (by unfold ltC; omega)⟩
          simp only [spec_l15Insert.l0, hlen, if_pos (show (q.length : Int) + 1 > 0 by omega), hw, if_pos (Int.natCast_nonneg q.length), hall, if_pos (show (q.length : Int) < (q.length : Int) + l2.length + 2 by omega), hr, if_neg h3, if_neg h4]
          exact Ev.now _
/-- What insertion gives: the cells with one more, sorted. -/
theorem insert_some {l : List Cl} (hl : l.length ≤ 50) (hp : l.Pairwise ltC) (x : Cl) (hx : ∀ c ∈ l, ¬ (c.f0 = x.f0 ∧ c.f1 = x.f1)) :
    ∃ m, Ev (fun k => spec_l15Insert.f k l x.f0 x.f1) m ∧ m.length = l.length + 1 ∧ m.Pairwise ltC ∧ ∀ y, y ∈ m ↔ y = x ∨ y ∈ l := by
  obtain ⟨m1, m2, h, e, a, b⟩ := insert_l0 x l.length l [] rfl (by simp; omega) (fun c hc => by simp at hc)
  rw [List.append_nil] at e
  have hmem : ∀ y, y ∈ m1 ++ x :: m2 ↔ y = x ∨ y ∈ l := fun y => by
    rw [← e]
    simp only [List.mem_append, List.mem_cons]
    constructor
    · rintro (h | h | h)
      · exact .inr (.inl h)
      · exact .inl h
      · exact .inr (.inr h)
    · rintro (h | h | h)
      · exact .inr (.inl h)
      · exact .inl h
      · exact .inr (.inr h)
  refine ⟨m1 ++ x :: m2, ?_, by rw [← e]; simp; omega, ?_, hmem⟩
  · unfold spec_l15Insert.f
    simp only [Option.bind_some, List.nil_append, List.length_append, List.length_cons, List.length_nil, Nat.zero_add, if_pos (show l.length < 8796093022208 by omega), if_pos (show l.length + 1 < 8796093022208 by omega), show ((l.length + 1 : Nat) : Int) - 1 = (l.length : Int) from by omega, pw_wrap (a := (l.length : Int)) (by omega) (by omega)]
    exact h
  · rw [← e, List.pairwise_append] at hp
    rw [List.pairwise_append]
    have hlast : ∀ c ∈ m1, ltC c x := by
      intro c hc
      rcases nil_or_snoc m1 with h0 | ⟨q, p, h0⟩
      · rw [h0] at hc; simp at hc
      · have hnp := b q p h0
        have hpl : p ∈ l := by rw [← e, h0]; simp
        have hpx := hx p hpl
        have hp1 : ltC p x := by unfold ltC at hnp ⊢; omega
        rw [h0] at hc
        rcases List.mem_append.1 hc with hc | hc
        · have hpp := hp.1
          rw [h0, List.pairwise_append] at hpp
          have := hpp.2.2 c hc p (by simp)
          unfold ltC at this hp1 ⊢
          omega
        · simp at hc
          rw [hc]
          exact hp1
    refine ⟨hp.1, List.pairwise_cons.2 ⟨a, hp.2.1⟩, fun c hc d hd => ?_⟩
    rcases List.mem_cons.1 hd with rfl | hd
    · exact hlast c hc
    · exact hp.2.2 c hc d hd
def adjC (c d : Cl) : Prop := ((d.f0 = c.f0 + 1 ∨ d.f0 = c.f0 + -1) ∧ d.f1 = c.f1) ∨ (d.f0 = c.f0 ∧ (d.f1 = c.f1 + 1 ∨ d.f1 = c.f1 + -1))
/-- The cells hang together. -/
def ConnC (l : List Cl) : Prop := ∀ P : Int → Int → Prop, (∃ c ∈ l, P c.f0 c.f1) → (∀ c ∈ l, ∀ d ∈ l, adjC c d → P c.f0 c.f1 → P d.f0 d.f1) → ∀ c ∈ l, P c.f0 c.f1
theorem conn_ins {l m : List Cl} {x b : Cl} (hm : ∀ y, y ∈ m ↔ y = x ∨ y ∈ l) (h : ConnC l) (hb : b ∈ l) (ha : adjC b x) : ConnC m := by
  intro P hP hcl
  have hbm : b ∈ m := (hm b).2 (.inr hb)
  have hxm : x ∈ m := (hm x).2 (.inl rfl)
  have hax : adjC x b := by unfold adjC at ha ⊢; omega
  have hbase : ∃ c ∈ l, P c.f0 c.f1 := by
    obtain ⟨c, hc, hp⟩ := hP
    rcases (hm c).1 hc with rfl | hc
    · exact ⟨b, hb, hcl c hxm b hbm hax hp⟩
    · exact ⟨c, hc, hp⟩
  have hall := h P hbase (fun c hc d hd => hcl c ((hm c).2 (.inr hc)) d ((hm d).2 (.inr hd)))
  intro c hc
  rcases (hm c).1 hc with rfl | hc
  · exact hcl b hbm c hxm ha (hall b hb)
  · exact hall c hc
theorem at_index {l : List Cl} {c : Cl} (hc : c ∈ l) : ∃ i : Int, 0 ≤ i ∧ i < l.length ∧ rd_T38 l i = c := by
  obtain ⟨j, hj, e⟩ := List.getElem_of_mem hc
  exact ⟨(j : Int), by omega, by omega, by rw [rdT_get l j hj, e]⟩
theorem index_at {l : List Cl} {i : Int} (h0 : 0 ≤ i) (h1 : i < l.length) : rd_T38 l i ∈ l := by
  obtain ⟨n, rfl⟩ := Int.eq_ofNat_of_zero_le h0
  have hn : n < l.length := by omega
  have := rdT_get l n hn
  rw [this]
  exact List.getElem_mem hn
theorem whole_of {l : List Cl} (hn : 1 ≤ l.length) (hv : vGo none l = true) (hc : ConnC l) : whole l (l.length + 1) [0] 0 = true := by
  have hf0 := few_zero (n := l.length) hn
  have hnb : ∀ x : Int, 0 ≤ x → x < (l.length : Int) → ∀ k ∈ nbrs l x, k < (l.length : Int) := fun x _ _ => nbrs_lt l x
  have hfew : Few l.length (bfs (nbrs l) (l.length + 1) [0] 0) := bfs_few (nbrs l) hnb _ _ _ hf0
  have hcl : ∀ x ∈ bfs (nbrs l) (l.length + 1) [0] 0, ∀ k ∈ nbrs l x, 0 ≤ k → k ∈ bfs (nbrs l) (l.length + 1) [0] 0 := bfs_closed (nbrs l) hnb _ _ _ hf0 rfl (fun j hj hji => absurd hji (by omega))
  have h0m : (0 : Int) ∈ bfs (nbrs l) (l.length + 1) [0] 0 := by
    obtain ⟨s, hs⟩ := bfs_pre (nbrs l) (l.length + 1) [0] 0
    rw [hs]
    simp
  generalize hQ : bfs (nbrs l) (l.length + 1) [0] 0 = Q at *
  have hall := hc (fun a b => ∃ q ∈ Q, cx l q = a ∧ cy l q = b) ⟨rd_T38 l 0, index_at (by omega) (by omega), 0, h0m, rfl, rfl⟩ (fun c _ d hd hadj ⟨q, hq, e1, e2⟩ => by
    obtain ⟨j, j0, j1, rfl⟩ := at_index hd
    have hself := cellAt_self hv j0 j1
    refine ⟨j, ?_, rfl, rfl⟩
    refine hcl q hq j ?_ j0
    have e1' : (rd_T38 l q).f0 = c.f0 := e1
    have e2' : (rd_T38 l q).f1 = c.f1 := e2
    simp only [nbrs, List.mem_cons, List.not_mem_nil, or_false]
    rw [e1', e2']
    unfold adjC at hadj
    rcases hadj with ⟨h | h, h2⟩ | ⟨h2, h | h⟩
    · exact .inl (by rw [← h, ← h2]; exact hself.symm)
    · exact .inr (.inl (by rw [← h, ← h2]; exact hself.symm))
    · exact .inr (.inr (.inl (by rw [← h, ← h2]; exact hself.symm)))
    · exact .inr (.inr (.inr (by rw [← h, ← h2]; exact hself.symm))))
  have hin : ∀ i : Int, 0 ≤ i → i < l.length → i ∈ Q := fun i i0 i1 => by
    obtain ⟨q, hq, e1, e2⟩ := hall _ (index_at i0 i1)
    have hb := hfew.2 q hq
    have s1 := cellAt_self hv i0 i1
    have s2 := cellAt_self hv hb.1 hb.2
    have e1' : (rd_T38 l q).f0 = (rd_T38 l i).f0 := e1
    have e2' : (rd_T38 l q).f1 = (rd_T38 l i).f1 := e2
    rw [e1', e2', s1] at s2
    rw [s2]
    exact hq
  have hlen := sub_len (vals (fun x => x) l.length 0) Q (vals_nodup _ _ _ (fun x y _ _ _ _ e => e)) (fun x hx => by
    obtain ⟨y, a, b, e⟩ := (mem_vals _ _ _ _).1 hx
    rw [e]
    exact hin y a (by omega))
  rw [vals_len] at hlen
  have hle := few_len hfew
  unfold whole
  rw [hQ, show Q.length = l.length from by omega]
  simp
theorem cellGo_in (x y : Int) : ∀ (l : List Cl) (s : Int), (∃ c ∈ l, c.f0 = x ∧ c.f1 = y) → s ≤ cellGo x y l s
  | [], s, h => by obtain ⟨c, hc, _⟩ := h; simp at hc
  | c :: cs, s, h => by
    rw [cellGo]
    by_cases hc : c.f0 = x ∧ c.f1 = y
    · rw [if_pos hc]
      exact Int.le_refl _
    · rw [if_neg hc]
      obtain ⟨d, hd, e⟩ := h
      rcases List.mem_cons.1 hd with rfl | hd
      · exact absurd e hc
      · have := cellGo_in x y cs (s + 1) ⟨d, hd, e⟩
        omega
/-- What the draw keeps. -/
structure TabI (l : List Cl) : Prop where
  n1 : 1 ≤ l.length
  pw : l.Pairwise ltC
  cc : ConnC l
  bd : ∀ c ∈ l, 0 ≤ c.f0 ∧ c.f0 ≤ 3 + l.length ∧ 0 ≤ c.f1 ∧ c.f1 ≤ 3 + l.length
theorem TabI.ok {l : List Cl} (h : TabI l) (hl : l.length ≤ 6) : tableB l = true := by
  have hv := vGo_of l none (fun c hc => by have := h.bd c hc; omega) h.pw (fun p e => by cases e)
  unfold tableB
  rw [decide_eq_true ⟨h.n1, hl⟩, hv, whole_of h.n1 hv h.cc]
  rfl
def dirs : List (List Int) := [[1, 0], [-1, 0], [0, 1], [0, -1]]
theorem draw_l0 (l : List Int) (hl : l.length ≤ 4611686018427387904) : ∀ (n : Nat) (out : List Cl) (s1 s2 : Int), TabI out → out.length + n ≤ 4 → 0 ≤ s1 → ∃ m t1 t2, Ev (fun k => spec_l15Draw.l0 k out (n : Int) l s1 s2) (m, t1, t2) ∧ TabI m ∧ m.length ≤ 4
  | 0, out, s1, s2, h, hn, hs => by
    refine ⟨out, s1, s2, ev_up ?_, h, by omega⟩
    simp only [spec_l15Draw.l0, if_neg (show ¬ ((0 : Nat) : Int) > 0 by omega)]
    exact Ev.now _
  | n + 1, out, s1, s2, h, hn, hs => by
    have h1 := h.n1
    obtain ⟨v, t1, t2, e1, v0, v1, ht⟩ := below_some l hl s1 s2 hs (out.length : Int) (by omega) (by omega)
    obtain ⟨u, w1, w2, e2, u0, u1, hw⟩ := below_some l hl t1 t2 ht 4 (by omega) (by omega)
    have hb := index_at (l := out) v0 v1
    have hbd := h.bd _ hb
    have ew : wrap64 (((n + 1 : Nat) : Int) - 1) = (n : Int) := by rw [pw_wrap (by omega) (by omega)]; omega
    obtain ⟨dx, dy, ed, hd⟩ : ∃ dx dy : Int, rd_L2 dirs u = [dx, dy] ∧ ((dx = 1 ∨ dx = -1) ∧ dy = 0 ∨ dx = 0 ∧ (dy = 1 ∨ dy = -1)) := by
      have hu : u = 0 ∨ u = 1 ∨ u = 2 ∨ u = 3 := by omega
      rcases hu with rfl | rfl | rfl | rfl
      · exact ⟨1, 0, rfl, by omega⟩
      · exact ⟨-1, 0, rfl, by omega⟩
      · exact ⟨0, 1, rfl, by omega⟩
      · exact ⟨0, -1, rfl, by omega⟩
    have skip : ∃ m t1 t2, Ev (fun k => spec_l15Draw.l0 k out (n : Int) l w1 w2) (m, t1, t2) ∧ TabI m ∧ m.length ≤ 4 := draw_l0 l hl n out w1 w2 h (by omega) hw
    have r0 : rd ([dx, dy] : List Int) 0 = dx := rfl
    have r1 : rd ([dx, dy] : List Int) 1 = dy := rfl
    have edir : ([[1, 0], [(-1), 0], [0, 1], [0, (-1)]] : List (List Int)) = dirs := rfl
    have el : ((dirs.length : Nat) : Int) = 4 := rfl
    generalize hB : rd_T38 out v = b at *
    have wx : wrap64 (b.f0 + dx) = b.f0 + dx := pw_wrap (by omega) (by omega)
    have wy : wrap64 (b.f1 + dy) = b.f1 + dy := pw_wrap (by omega) (by omega)
    have hhead : ∀ {r : (List Cl) × Int × Int}, Ev (fun k => (if b.f0 + dx ≥ 0 then (if b.f1 + dy ≥ 0 then ((spec_CellAt.f k out (b.f0 + dx) (b.f1 + dy)).bind fun t => (if t < 0 then ((spec_l15Insert.f k out (b.f0 + dx) (b.f1 + dy)).bind fun t285 => (spec_l15Draw.l0 k t285 (n : Int) l w1 w2)) else (spec_l15Draw.l0 k out (n : Int) l w1 w2))) else (spec_l15Draw.l0 k out (n : Int) l w1 w2)) else (spec_l15Draw.l0 k out (n : Int) l w1 w2))) r → Ev (fun k => spec_l15Draw.l0 k out ((n + 1 : Nat) : Int) l s1 s2) r := fun hr => by
      refine ev_up ?_
      simp only [spec_l15Draw.l0, if_pos (show ((n + 1 : Nat) : Int) > 0 by omega), e1, Option.bind_some, if_pos v0, if_pos v1, e2, if_pos u0, edir, el, if_pos u1, ed, List.length_cons, List.length_nil, if_pos (show (0 : Int) < ((0 + 1 + 1 : Nat) : Int) by omega), if_pos (show (1 : Int) < ((0 + 1 + 1 : Nat) : Int) by omega), hB, r0, r1, wx, wy, ew]
      exact hr
    by_cases hx : b.f0 + dx ≥ 0
    · by_cases hy : b.f1 + dy ≥ 0
      · by_cases hc : cellAt out (b.f0 + dx) (b.f1 + dy) < 0
        · obtain ⟨m, hm, hml, hmp, hmm⟩ := insert_some (by omega) h.pw (⟨b.f0 + dx, b.f1 + dy⟩ : Cl) (fun c hc2 e => by
            have := cellGo_in (b.f0 + dx) (b.f1 + dy) out 0 ⟨c, hc2, e⟩
            unfold cellAt at hc
            omega)
          have hT : TabI m := by
            refine ⟨by omega, hmp, conn_ins hmm h.cc hb (by unfold adjC; simp only; omega), fun c hc2 => ?_⟩
            rcases (hmm c).1 hc2 with rfl | hc2
            · simp only
              omega
            · have := h.bd c hc2
              omega
          obtain ⟨q, z1, z2, hr, hq, hql⟩ := draw_l0 l hl n m w1 w2 hT (by omega) hw
          refine ⟨q, z1, z2, hhead ?_, hq, hql⟩
          simp only [if_pos hx, if_pos hy]
          refine Ev.bind (spec_CellAt_ev out (by omega) _ _) ?_
          simp only [if_pos hc]
          exact Ev.bind hm hr
        · obtain ⟨q, z1, z2, hr, hq, hql⟩ := skip
          refine ⟨q, z1, z2, hhead ?_, hq, hql⟩
          simp only [if_pos hx, if_pos hy]
          refine Ev.bind (spec_CellAt_ev out (by omega) _ _) ?_
          simp only [if_neg hc]
          exact hr
      · obtain ⟨q, z1, z2, hr, hq, hql⟩ := skip
        refine ⟨q, z1, z2, hhead ?_, hq, hql⟩
        simp only [if_pos hx, if_neg hy]
        exact hr
    · obtain ⟨q, z1, z2, hr, hq, hql⟩ := skip
      refine ⟨q, z1, z2, hhead ?_, hq, hql⟩
      simp only [if_neg hx]
      exact hr
theorem table_some (l : List Int) (hl : l.length ≤ 4611686018427387904) : ∃ m, Ev (fun k => spec_MakeTable.f k l) m ∧ tableB m = true ∧ m.length ≤ 4 := by
  obtain ⟨h, e⟩ := new_some l hl
  obtain ⟨x, t1, t2, e1, x0, x1, ht⟩ := below_some l hl 0 h (by omega) 3 (by omega) (by omega)
  obtain ⟨y, u1, u2, e2, y0, y1, hu⟩ := below_some l hl t1 t2 ht 3 (by omega) (by omega)
  obtain ⟨v, w1, w2, e3, v0, v1, hw⟩ := below_some l hl u1 u2 hu 4 (by omega) (by omega)
  have hT : TabI [(⟨2 + x, 2 + y⟩ : Cl)] := by
    refine ⟨by simp, List.pairwise_singleton _ _, fun P hP _ c hc => ?_, fun c hc => ?_⟩
    · obtain ⟨d, hd, hp⟩ := hP
      simp only [List.mem_singleton] at hc hd
      rw [hc]
      rw [hd] at hp
      exact hp
    · simp only [List.mem_singleton] at hc
      subst hc
      simp only [List.length_singleton]
      omega
  obtain ⟨n, rfl⟩ := Int.eq_ofNat_of_zero_le v0
  obtain ⟨m, z1, z2, hr, hm, hml⟩ := draw_l0 l hl n [(⟨2 + x, 2 + y⟩ : Cl)] w1 w2 hT (by simp; omega) hw
  refine ⟨m, ?_, hm.ok (by omega), hml⟩
  unfold spec_MakeTable.f
  refine Ev.bind e ?_
  refine Ev.bind (a := (m, z1, z2)) ?_ (Ev.now _)
  unfold spec_l15Draw.f
  simp only [e1, e2, e3, Option.bind_some, pw_wrap (a := 2 + x) (by omega) (by omega), pw_wrap (a := 2 + y) (by omega) (by omega)]
  exact hr

/-- A number in decimals. -/
def decB (u : Nat) : ByteArray := ⟨(Go.Lib.decDigits u).toArray⟩
def itoaB (n : Int) : ByteArray := ⟨(Go.Lib.itoa n).toArray⟩
theorem nDig_le : ∀ (d u : Nat), u < 10 ^ (d + 1) → Go.Lib.nDigits u ≤ d + 1
  | 0, u, h => by rw [Go.Lib.nDigits_small (by simpa using h)]; omega
  | d + 1, u, h => by
    by_cases hu : u < 10
    · rw [Go.Lib.nDigits_small hu]; omega
    · rw [Go.Lib.nDigits_big hu]
      have := nDig_le d (u / 10) (by rw [Nat.pow_succ] at h; omega)
      omega
theorem decB_size (u : Nat) : (decB u).size = Go.Lib.nDigits u := by
  show (Go.Lib.decDigits u).toArray.size = _
  rw [List.size_toArray, Go.Lib.decDigits_length]
theorem bytes_app (a b : List UInt8) : (⟨a.toArray⟩ : ByteArray) ++ ⟨b.toArray⟩ = ⟨(a ++ b).toArray⟩ := by
  apply ByteArray.ext
  rw [ByteArray.data_append]
  simp
theorem itoaB_pos {n : Int} (h : 0 ≤ n) : itoaB n = decB n.toNat := by
  unfold itoaB Go.Lib.itoa decB
  rw [if_neg (by omega)]
theorem itoaB_neg {n : Int} (h : n < 0) : itoaB n = (⟨#[45]⟩ : ByteArray) ++ decB n.natAbs := by
  unfold itoaB Go.Lib.itoa decB
  rw [if_pos h, show (⟨#[45]⟩ : ByteArray) = ⟨[45].toArray⟩ from rfl, bytes_app]
  rfl
theorem itoaB_size {n : Int} (h0 : -9223372036854775808 ≤ n) (h1 : n ≤ 9223372036854775807) : (itoaB n).size ≤ 20 := by
  by_cases h : 0 ≤ n
  · rw [itoaB_pos h, decB_size]
    have := nDig_le 18 n.toNat (by omega)
    omega
  · rw [itoaB_neg (by omega), ByteArray.size_append, decB_size]
    have := nDig_le 18 n.natAbs (by omega)
    show 1 + _ ≤ 20
    omega
theorem impl_fmtint {n : Int} (h0 : -9223372036854775808 ≤ n) (h1 : n ≤ 9223372036854775807) : impl_FormatInt.f n = some (itoaB n) := by
  unfold impl_FormatInt.f strconv_Itoa.f
  rw [if_pos ⟨h0, h1⟩]
  rfl
def joinOf (l : List ByteArray) (sep : ByteArray) : ByteArray := ⟨(joinB l sep).toArray⟩
def tot (l : List ByteArray) (sep : ByteArray) : Nat := match l with
  | [] => 0
  | x :: xs => x.size + sep.size + tot xs sep
theorem join_two (sep a : List UInt8) (xs : List (List UInt8)) (h : xs ≠ []) : Go.Lib.join (a :: xs) sep = a ++ sep ++ Go.Lib.join xs sep := by
  cases xs with
  | nil => exact absurd rfl h
  | cons b t => simp [Go.Lib.join, List.intercalate]
theorem bytes_self (x : ByteArray) : (⟨x.data.toList.toArray⟩ : ByteArray) = x := by
  apply ByteArray.ext
  simp
theorem joinOf_nil (sep : ByteArray) : joinOf [] sep = ⟨#[]⟩ := by simp [joinOf, joinB, Go.Lib.join, List.intercalate]
theorem joinOf_one (x sep : ByteArray) : joinOf [x] sep = x := by
  simp [joinOf, joinB, Go.Lib.join, List.intercalate]
theorem joinOf_size (sep : ByteArray) : ∀ (l : List ByteArray), (joinOf l sep).size ≤ tot l sep
  | [] => by rw [joinOf_nil]; exact Nat.zero_le _
  | [x] => by rw [joinOf_one]; simp only [tot]; omega
  | x :: y :: l => by
    have h : joinOf (x :: y :: l) sep = x ++ sep ++ joinOf (y :: l) sep := by
      unfold joinOf joinB
      rw [List.map_cons, join_two _ _ _ (by simp), ← bytes_app, ← bytes_app, bytes_self, bytes_self]
    rw [h, ByteArray.size_append, ByteArray.size_append]
    have := joinOf_size sep (y :: l)
    rw [tot]
    omega
theorem impl_join (sep : ByteArray) (l : List ByteArray) (hl : l.length ≤ 1000000000000) (ht : tot l sep ≤ 1000000000000) : impl_Join.f l sep = some (joinOf l sep) := by
  unfold impl_Join.f strings_Join.f
  have hs : (joinB l sep).length ≤ tot l sep := by
    have := joinOf_size sep l
    exact this
  rw [if_pos ⟨by omega, by omega⟩]
  rfl

def cellB (c : Cl) : ByteArray := itoaB c.f0 ++ (⟨#[44]⟩ : ByteArray) ++ itoaB c.f1
theorem cellB_bd {c : Cl} (h : 0 ≤ c.f0 ∧ c.f0 ≤ 9 ∧ 0 ≤ c.f1 ∧ c.f1 ≤ 9) : (itoaB c.f0).size ≤ 20 ∧ (itoaB c.f1).size ≤ 20 ∧ (itoaB c.f0 ++ (⟨#[44]⟩ : ByteArray)).size + (itoaB c.f1).size ≤ 9223372036854775807 ∧ (cellB c).size ≤ 41 := by
  have za := itoaB_size (n := c.f0) (by omega) (by omega)
  have zb := itoaB_size (n := c.f1) (by omega) (by omega)
  have e : (⟨#[44]⟩ : ByteArray).size = 1 := rfl
  refine ⟨za, zb, ?_, ?_⟩
  · rw [ByteArray.size_append, e]
    omega
  · unfold cellB
    rw [ByteArray.size_append, ByteArray.size_append, e]
    omega
theorem tot_cells (sep : ByteArray) (hs : sep.size = 1) : ∀ (l : List Cl), Near0 l → tot (l.map cellB) sep ≤ 42 * l.length
  | [], _ => by simp [tot]
  | x :: l, h => by
    have h1 := tot_cells sep hs l (fun y hy => h y (List.mem_cons_of_mem _ hy))
    have h3 := (cellB_bd (h x List.mem_cons_self)).2.2.2
    simp only [List.map_cons, tot, List.length_cons]
    omega
def tableT (l : List Cl) : ByteArray := if tableB l = true then joinOf (l.map cellB) ⟨#[32]⟩ else ⟨#[]⟩
theorem tableT_size (l : List Cl) : (tableT l).size ≤ 252 := by
  unfold tableT
  by_cases h : tableB l = true
  · obtain ⟨h6, hn, _, _⟩ := tableB_side h
    rw [if_pos h]
    have := joinOf_size ⟨#[32]⟩ (l.map cellB)
    have := tot_cells ⟨#[32]⟩ rfl l hn
    omega
  · rw [if_neg h]
    exact Nat.zero_le _
theorem impl_fmttable_l0 (l : List Cl) (hl : l.length ≤ 6) (h : Near0 l) : ∀ (suf pre : List Cl), l = pre ++ suf → Ev (fun k => impl_FormatTable.l0 k (pre.map cellB) l (l.length : Int) (pre.length : Int)) (joinOf (l.map cellB) ⟨#[32]⟩)
  | [], pre, e => by
    refine ev_up ?_
    have e2 : l = pre := by simpa using e
    subst e2
    have := tot_cells ⟨#[32]⟩ rfl l h
    simp only [impl_FormatTable.l0, if_neg (show ¬ ((l.length : Int) < l.length) by omega), impl_join _ (l.map cellB) (by rw [List.length_map]; omega) (show tot (l.map cellB) ⟨#[32]⟩ ≤ 1000000000000 by omega), Option.bind_some]
    exact Ev.now _
  | x :: suf, pre, e => by
    refine ev_up ?_
    have hlen : l.length = pre.length + suf.length + 1 := by rw [e]; simp; omega
    have hx : rd_T38 l (pre.length : Int) = x := by rw [e]; exact rdT_mid _ _ _
    have hxm := h x (by rw [e]; simp)
    have hb := cellB_bd hxm
    have hw : wrap64 ((pre.length : Int) + 1) = ((pre ++ [x]).length : Int) := by rw [pw_wrap (by omega) (by omega)]; simp
    have ih := impl_fmttable_l0 l hl h suf (pre ++ [x]) (by simp [e])
    simp only [impl_FormatTable.l0, if_pos (show ((pre.length : Int) < l.length) by omega), if_pos (show (0 ≤ (pre.length : Int)) by omega), hx, hw, impl_fmtint (n := x.f0) (by omega) (by omega), impl_fmtint (n := x.f1) (by omega) (by omega), Option.bind_some]
    refine Ev.congr (f := fun k => _) (fun k => ((if_pos (by omega)).trans (if_pos hb.2.2.1)).trans (if_pos (by rw [List.length_map]; omega))) ?_
    rw [List.map_append] at ih
    exact ih
theorem impl_fmttable (l : List Cl) : Ev (fun k => impl_FormatTable.f k l) (tableT l) := by
  unfold impl_FormatTable.f tableT
  refine Ev.bind (impl_table l) ?_
  by_cases h : tableB l = true
  · obtain ⟨h6, hn, _, _⟩ := tableB_side h
    simp only [if_pos h]
    exact impl_fmttable_l0 l h6.2 hn l [] rfl
  · simp only [if_neg h]
    exact Ev.now _

theorem loop_eq (b : ByteArray) : ∀ (d i : Nat) (r : List UInt8), b.size - i = d → ByteArray.toList.loop b i r = r.reverse ++ b.data.toList.drop i
  | 0, i, r, h => by
    rw [ByteArray.toList.loop, if_neg (by omega), List.drop_eq_nil_of_le (by have e : b.data.toList.length = b.size := rfl; omega)]
    simp
  | d + 1, i, r, h => by
    have hi : i < b.data.toList.length := by have e : b.data.toList.length = b.size := rfl; omega
    rw [ByteArray.toList.loop, if_pos (by omega), loop_eq b d (i + 1) _ (by omega), List.drop_eq_getElem_cons hi]
    have e : b.get! i = b.data.toList[i] := by
      have h2 : i < b.data.size := by simpa using hi
      show b.data[i]! = _
      rw [getElem!_pos b.data i h2]
      simp
    rw [e]
    simp
theorem toList_eq (b : ByteArray) : b.toList = b.data.toList := by
  unfold ByteArray.toList
  rw [loop_eq b b.size 0 [] (by omega)]
  simp
/-! A text cut at a byte. -/
def ofL (l : List UInt8) : ByteArray := ⟨l.toArray⟩
theorem ofL_self (s : ByteArray) : ofL s.data.toList = s := by
  apply ByteArray.ext
  simp [ofL]
theorem ofL_size (l : List UInt8) : (ofL l).size = l.length := by
  show l.toArray.size = _
  simp
theorem len_data (s : ByteArray) : s.data.toList.length = s.size := rfl
def consH (b : UInt8) (x : List (List UInt8)) : List (List UInt8) := match x with
  | [] => [[b]]
  | y :: ys => (b :: y) :: ys
def consL (a : List UInt8) (x : List (List UInt8)) : List (List UInt8) := match x with
  | [] => [a]
  | y :: ys => (a ++ y) :: ys
def splL (c : UInt8) : List UInt8 → List (List UInt8)
  | [] => [[]]
  | b :: l => if b = c then [] :: splL c l else consH b (splL c l)
theorem splL_ne (c : UInt8) : ∀ l : List UInt8, splL c l ≠ []
  | [] => by simp [splL]
  | b :: l => by
    unfold splL
    split
    · simp
    · unfold consH
      split <;> simp
theorem consL_nil (x : List (List UInt8)) (h : x ≠ []) : consL [] x = x := by
  cases x with
  | nil => exact absurd rfl h
  | cons y ys => simp [consL]
theorem splL_app (c : UInt8) : ∀ (a l : List UInt8), c ∉ a → splL c (a ++ l) = consL a (splL c l)
  | [], l, _ => (consL_nil _ (splL_ne c l)).symm
  | b :: a, l, h => by
    have hb : ¬ b = c := fun e => h (by simp [e])
    have ih := splL_app c a l (fun h2 => h (List.mem_cons_of_mem _ h2))
    rw [List.cons_append, splL, if_neg hb, ih]
    cases splL c l with
    | nil => simp [consL, consH]
    | cons y ys => simp [consL, consH]
theorem splL_self (c : UInt8) (a : List UInt8) (h : c ∉ a) : splL c a = [a] := by
  have := splL_app c a [] h
  rw [List.append_nil] at this
  rw [this]
  simp [splL, consL]
theorem splL_cut (c : UInt8) (a l : List UInt8) (h : c ∉ a) : splL c (a ++ c :: l) = a :: splL c l := by
  rw [splL_app c a _ h, splL, if_pos rfl]
  simp [consL]
theorem splL_join (c : UInt8) : ∀ (l : List (List UInt8)), l ≠ [] → (∀ x ∈ l, c ∉ x) → splL c (Go.Lib.join l [c]) = l
  | [], h, _ => absurd rfl h
  | [x], _, h => by
    rw [show Go.Lib.join [x] [c] = x by simp [Go.Lib.join, List.intercalate]]
    exact splL_self c x (h x (by simp))
  | x :: y :: l, _, h => by
    have e : Go.Lib.join (x :: y :: l) [c] = x ++ c :: Go.Lib.join (y :: l) [c] := by
      simp [Go.Lib.join, List.intercalate]
    rw [e, splL_cut c x _ (h x (by simp)), splL_join c (y :: l) (by simp) (fun z hz => h z (List.mem_cons_of_mem _ hz))]
theorem consH_len (b : UInt8) (n : Nat) (x : List (List UInt8)) (h : ∀ p ∈ x, p.length ≤ n) : ∀ p ∈ consH b x, p.length ≤ n + 1 := by
  intro p hp
  cases x with
  | nil =>
    simp only [consH, List.mem_singleton] at hp
    subst hp
    simp
  | cons y ys =>
    simp only [consH, List.mem_cons] at hp
    rcases hp with rfl | hp
    · have := h y (by simp)
      simp only [List.length_cons]
      omega
    · have := h p (List.mem_cons_of_mem _ hp)
      omega
theorem splL_len (c : UInt8) : ∀ l : List UInt8, (splL c l).length ≤ l.length + 1 ∧ ∀ p ∈ splL c l, p.length ≤ l.length
  | [] => by simp [splL]
  | b :: l => by
    obtain ⟨h1, h2⟩ := splL_len c l
    unfold splL
    split
    · refine ⟨by simp only [List.length_cons]; omega, fun p hp => ?_⟩
      rcases List.mem_cons.1 hp with rfl | hp
      · simp
      · have := h2 p hp
        simp only [List.length_cons]
        omega
    · refine ⟨?_, by simpa using consH_len b l.length _ h2⟩
      cases hx : splL c l with
      | nil => exact absurd hx (splL_ne c l)
      | cons y ys =>
        rw [hx] at h1
        simp only [consH, List.length_cons] at h1 ⊢
        omega
/-- The pieces, as texts. -/
def splA (c : UInt8) (s : ByteArray) : List ByteArray := (splL c s.data.toList).map ofL
theorem splA_side (c : UInt8) (s : ByteArray) : 1 ≤ (splA c s).length ∧ (splA c s).length ≤ s.size + 1 ∧ ∀ p ∈ splA c s, p.size ≤ s.size := by
  obtain ⟨h1, h2⟩ := splL_len c s.data.toList
  have h3 := splL_ne c s.data.toList
  rw [len_data] at h1
  unfold splA
  refine ⟨by rw [List.length_map]; have := List.length_pos_iff.2 h3; omega, by rw [List.length_map]; omega, fun p hp => ?_⟩
  obtain ⟨q, hq, rfl⟩ := List.mem_map.1 hp
  rw [ofL_size]
  exact h2 q hq
/-- The library's pieces are these. -/
theorem splitK_cons (c b : UInt8) (l : List UInt8) (h : ¬ b = c) (n : Nat) : Go.Lib.splitK [c] 0 n (b :: l) = consH b (Go.Lib.splitK [c] 0 n l) := by
  have hp : ([c] : List UInt8).isPrefixOf (b :: l) = false := by simp [List.isPrefixOf, Ne.symm h]
  have hix : Go.Lib.index (b :: l) [c] = if Go.Lib.index l [c] == -1 then -1 else Go.Lib.index l [c] + 1 := by rw [Go.Lib.index, hp]; simp
  cases n with
  | zero => simp [Go.Lib.splitK, consH]
  | succ n =>
    unfold Go.Lib.splitK
    by_cases hm : Go.Lib.index l [c] = -1
    · rw [hix, hm]
      simp [consH]
    · have hge := Go.Lib.index_ge l [c]
      obtain ⟨j, hj⟩ : ∃ j : Nat, Go.Lib.index l [c] = j := ⟨(Go.Lib.index l [c]).toNat, by omega⟩
      have h1 : ¬ (((j : Nat) : Int) == -1) = true := by rw [beq_iff_eq]; omega
      have h2 : ¬ (((j : Nat) : Int) + 1 == -1) = true := by rw [beq_iff_eq]; omega
      have e : (((j : Nat) : Int) + 1).toNat = j + 1 := by omega
      rw [hix, hj, if_neg h1, if_neg h2, if_neg h1, e]
      simp [consH]
theorem splitK_splL (c : UInt8) : ∀ l : List UInt8, Go.Lib.splitK [c] 0 (Go.Lib.count l [c]) l = splL c l
  | [] => by
    rw [Go.Lib.count_miss (by simp [Go.Lib.index])]
    rfl
  | b :: l => by
    unfold splL
    by_cases h : b = c
    · subst h
      have hix : Go.Lib.index (b :: l) [b] = ((0 : Nat) : Int) := by rw [Go.Lib.index]; simp [List.isPrefixOf]
      rw [if_pos rfl, Go.Lib.count_cons_eq, Nat.add_comm, Go.Lib.splitK, hix, if_neg (by decide), ← splitK_splL b l]
      simp
    · rw [if_neg h, Go.Lib.count_cons_ne b c l h, splitK_cons c b l h, splitK_splL c l]
theorem impl_split (c : UInt8) (s : ByteArray) (hs : s.size ≤ 1048576) : strings_Split.f s ⟨#[c]⟩ = some (splA c s) := by
  unfold strings_Split.f
  have e1 : (⟨#[c]⟩ : ByteArray).size = 1 := rfl
  rw [if_pos ⟨by omega, by rw [e1]; omega⟩]
  congr 1
  have h := Go.Lib.splitB_data ⟨#[c]⟩ 0 (Go.Lib.countB s ⟨#[c]⟩) s
  have h2 : Go.Lib.splitK [c] 0 (Go.Lib.countB s ⟨#[c]⟩) s.data.toList = splL c s.data.toList := splitK_splL c s.data.toList
  have h3 : (Go.Lib.splitB ⟨#[c]⟩ 0 (Go.Lib.countB s ⟨#[c]⟩) s).map (·.data.toList) = splL c s.data.toList := h.trans h2
  unfold splA
  rw [← h3, List.map_map]
  conv => lhs; rw [← List.map_id (Go.Lib.splitB ⟨#[c]⟩ 0 (Go.Lib.countB s ⟨#[c]⟩) s)]
  refine List.map_congr_left fun x _ => ?_
  exact (ofL_self x).symm
/-! Numbers out of texts. -/
/-- The digits of a small number. -/
theorem itoa_one {x : Int} (h0 : 0 ≤ x) (h1 : x < 10) : Go.Lib.itoa x = [UInt8.ofNat (48 + x.toNat)] := by
  unfold Go.Lib.itoa
  rw [if_neg (by omega), Go.Lib.decDigits, dif_pos (by omega)]
theorem itoa_two {x : Int} (h0 : 10 ≤ x) (h1 : x < 100) : Go.Lib.itoa x = [UInt8.ofNat (48 + x.toNat / 10), UInt8.ofNat (48 + x.toNat % 10)] := by
  unfold Go.Lib.itoa
  rw [if_neg (by omega), Go.Lib.decDigits, dif_neg (by omega), Go.Lib.decDigits, dif_pos (by omega)]
  rfl
theorem dig_nat {n : Nat} (h : n < 10) : (UInt8.ofNat (48 + n)).toNat = 48 + n := by
  rw [UInt8.toNat_ofNat']
  omega
theorem itoa_dig {x : Int} (h0 : 0 ≤ x) (h1 : x < 100) : ∀ b ∈ Go.Lib.itoa x, 48 ≤ b.toNat ∧ b.toNat ≤ 57 := by
  intro b hb
  by_cases h : x < 10
  · rw [itoa_one h0 h, List.mem_singleton] at hb
    subst hb
    rw [dig_nat (by omega)]
    omega
  · rw [itoa_two (by omega) h1] at hb
    simp only [List.mem_cons, List.not_mem_nil, or_false] at hb
    rcases hb with rfl | rfl
    · rw [dig_nat (by omega)]
      omega
    · rw [dig_nat (by omega)]
      omega
/-- The program's. -/
theorem atoi_one : ∀ a : Fin 10, Go.Lib.atoi [UInt8.ofNat (48 + a.val)] = some (a.val : Int) := by decide
theorem atoi_two : ∀ a b : Fin 10, Go.Lib.atoi [UInt8.ofNat (48 + a.val), UInt8.ofNat (48 + b.val)] = some ((a.val * 10 + b.val : Nat) : Int) := by decide
theorem atoi_small {x : Int} (h0 : 0 ≤ x) (h1 : x < 100) : Go.Lib.atoiAll (Go.Lib.itoa x) = .ok x := by
  by_cases h : x < 10
  · rw [itoa_one h0 h, Go.Lib.atoiAll_short _ (by simp), atoi_one ⟨x.toNat, by omega⟩]
    show Go.Lib.NumEnd.ok _ = _
    congr 1
    simp only
    omega
  · rw [itoa_two (by omega) h1, Go.Lib.atoiAll_short _ (by simp), atoi_two ⟨x.toNat / 10, by omega⟩ ⟨x.toNat % 10, by omega⟩]
    show Go.Lib.NumEnd.ok _ = _
    congr 1
    simp only
    omega
theorem impl_pint (s : ByteArray) (hs : s.size ≤ 1048576) : impl_ParseInt.f s = some (pIntOf s) := by
  unfold impl_ParseInt.f
  rw [if_pos (by omega)]
theorem pIntOf_small {x : Int} (h0 : 0 ≤ x) (h1 : x < 100) : pIntOf (itoaB x) = (x, true) := by
  have e : (itoaB x).data.toList = Go.Lib.itoa x := by simp [itoaB]
  unfold pIntOf
  rw [e, atoi_small h0 h1]
  simp
/-- The numbers of a text that is cut at ','. -/
def intsOf (s : ByteArray) : List Int := (splA 44 s).map fun p => (pIntOf p).1
theorem impl_nums_l0 (l : List ByteArray) (hl : l.length ≤ 1048577) (h : ∀ x ∈ l, x.size ≤ 1048576) : ∀ (suf pre : List ByteArray), l = pre ++ suf → Ev (fun k => impl_parseInts.l0 k (pre.map fun p => (pIntOf p).1) l (l.length : Int) (pre.length : Int)) (l.map fun p => (pIntOf p).1)
  | [], pre, e => by
    have e2 : l = pre := by simpa using e
    subst e2
    refine ev_up ?_
    simp only [impl_parseInts.l0, if_neg (show ¬ ((l.length : Int) < l.length) by omega)]
    exact Ev.now _
  | x :: suf, pre, e => by
    have hlen : l.length = pre.length + suf.length + 1 := by rw [e]; simp; omega
    have hx : rdOf ByteArray.empty l (pre.length : Int) = x := by rw [e]; simp [rdOf, List.getD]
    have hw : wrap64 ((pre.length : Int) + 1) = ((pre ++ [x]).length : Int) := by rw [pw_wrap (by omega) (by omega)]; simp
    have ih := impl_nums_l0 l hl h suf (pre ++ [x]) (by simp [e])
    refine ev_up ?_
    simp only [impl_parseInts.l0, if_pos (show ((pre.length : Int) < l.length) by omega), if_pos (show (0 ≤ (pre.length : Int)) by omega), hx, hw, impl_pint x (h x (by rw [e]; simp)), Option.bind_some, List.length_map, if_pos (show pre.length < 17592186044416 by omega)]
    rw [List.map_append] at ih
    exact ih
theorem impl_intsOf (s : ByteArray) (hs : s.size ≤ 1048576) : Ev (fun k => impl_parseInts.f k s) (intsOf s) := by
  obtain ⟨h1, h2, h3⟩ := splA_side 44 s
  unfold impl_parseInts.f
  simp only [impl_split 44 s hs, Option.bind_some]
  exact impl_nums_l0 (splA 44 s) (by omega) (fun x hx => by have := h3 x hx; omega) (splA 44 s) [] rfl
theorem no_sep {x : Int} (h0 : 0 ≤ x) (h1 : x < 100) (c : UInt8) (hc : c.toNat < 48 ∨ 57 < c.toNat) : c ∉ Go.Lib.itoa x := fun h => by
  have := itoa_dig h0 h1 c h
  omega

/-! A joined text is cut into what it was joined of. -/
theorem toList_inj {b c : ByteArray} (h : b.toList = c.toList) : b = c := by
  rw [toList_eq, toList_eq] at h
  rw [← ofL_self b, ← ofL_self c, h]
theorem joinOf_data (l : List ByteArray) (sep : ByteArray) : (joinOf l sep).data.toList = Go.Lib.join (l.map (·.data.toList)) sep.data.toList := by
  simp [joinOf, joinB]
theorem splA_join (c : UInt8) (l : List ByteArray) (h : l ≠ []) (hc : ∀ x ∈ l, c ∉ x.data.toList) : splA c (joinOf l ⟨#[c]⟩) = l := by
  unfold splA
  rw [joinOf_data]
  have e : (⟨#[c]⟩ : ByteArray).data.toList = [c] := rfl
  rw [e, splL_join c _ (by simpa using h) (by simpa using hc), List.map_map]
  conv => rhs; rw [← List.map_id l]
  exact List.map_congr_left fun x _ => ofL_self x

theorem cellB_data (c : Cl) : (cellB c).data.toList = Go.Lib.itoa c.f0 ++ 44 :: Go.Lib.itoa c.f1 := by
  simp [cellB, itoaB, ByteArray.data_append]
theorem cellB_no {c : Cl} (h : 0 ≤ c.f0 ∧ c.f0 ≤ 9 ∧ 0 ≤ c.f1 ∧ c.f1 ≤ 9) : (32 : UInt8) ∉ (cellB c).data.toList := by
  rw [cellB_data]
  intro hm
  rcases List.mem_append.1 hm with hm | hm
  · exact no_sep (x := c.f0) (by omega) (by omega) 32 (by decide) hm
  · rcases List.mem_cons.1 hm with hm | hm
    · exact absurd hm (by decide)
    · exact no_sep (x := c.f1) (by omega) (by omega) 32 (by decide) hm
theorem splA_cell {c : Cl} (h : 0 ≤ c.f0 ∧ c.f0 ≤ 9 ∧ 0 ≤ c.f1 ∧ c.f1 ≤ 9) : splA 44 (cellB c) = [c.f0, c.f1].map itoaB := by
  unfold splA
  rw [cellB_data, splL_cut 44 _ _ (no_sep (by omega) (by omega) 44 (by decide)), splL_self 44 _ (no_sep (by omega) (by omega) 44 (by decide))]
  rfl
def cellOf (p : ByteArray) : Cl := ⟨rd (intsOf p ++ [0]) 0, rd (intsOf p ++ [0]) 1⟩
theorem cellOf_cell {c : Cl} (h : 0 ≤ c.f0 ∧ c.f0 ≤ 9 ∧ 0 ≤ c.f1 ∧ c.f1 ≤ 9) : cellOf (cellB c) = c := by
  have e : intsOf (cellB c) = [c.f0, c.f1] := by
    unfold intsOf
    rw [splA_cell h]
    simp [pIntOf_small (x := c.f0) (by omega) (by omega), pIntOf_small (x := c.f1) (by omega) (by omega)]
  unfold cellOf
  rw [e]
  rfl
theorem impl_pt_l0 (s : ByteArray) (l : List ByteArray) (hl : l.length ≤ 1048577) (h : ∀ x ∈ l, x.size ≤ 1048576) : ∀ (suf pre : List ByteArray), l = pre ++ suf →
    Ev (fun k => impl_ParseTable.l0 k s (pre.map cellOf) l (l.length : Int) (pre.length : Int)) (if s.toList = [] then ([], false) else if (tableT (l.map cellOf)).toList = s.toList then (l.map cellOf, true) else ([], false))
  | [], pre, e => by
    have e2 : l = pre := by simpa using e
    subst e2
    refine ev_up ?_
    simp only [impl_ParseTable.l0, if_neg (show ¬ ((l.length : Int) < l.length) by omega)]
    by_cases h0 : s.toList = []
    · simp only [if_pos h0]
      exact Ev.now _
    · simp only [if_neg h0]
      refine Ev.bind (impl_fmttable _) ?_
      by_cases h1 : (tableT (l.map cellOf)).toList = s.toList
      · simp only [if_pos h1]
        exact Ev.now _
      · simp only [if_neg h1]
        exact Ev.now _
  | x :: suf, pre, e => by
    have hlen : l.length = pre.length + suf.length + 1 := by rw [e]; simp; omega
    have hx : rdOf ByteArray.empty l (pre.length : Int) = x := by rw [e]; simp [rdOf, List.getD]
    have hw : wrap64 ((pre.length : Int) + 1) = ((pre ++ [x]).length : Int) := by rw [pw_wrap (by omega) (by omega)]; simp
    have hxs := h x (by rw [e]; simp)
    obtain ⟨z1, z2, _⟩ := splA_side 44 x
    have hil : (intsOf x).length = (splA 44 x).length := by simp [intsOf]
    have hil2 : (intsOf x ++ [0]).length = (splA 44 x).length + 1 := by simp [hil]
    have ih := impl_pt_l0 s l hl h suf (pre ++ [x]) (by simp [e])
    refine ev_up ?_
    simp only [impl_ParseTable.l0, if_pos (show ((pre.length : Int) < l.length) by omega), if_pos (show (0 ≤ (pre.length : Int)) by omega), hx, hw]
    refine Ev.bind (impl_intsOf x hxs) ?_
    simp only [if_pos (show (intsOf x).length < 17592186044416 by omega), Option.bind_some, if_pos (show 0 < ((intsOf x ++ [0]).length : Int) by omega), if_pos (show 1 < ((intsOf x ++ [0]).length : Int) by omega), List.length_map, if_pos (show pre.length < 8796093022208 by omega)]
    rw [List.map_append] at ih
    exact ih
theorem impl_pt (s : ByteArray) (hs : s.size ≤ 1048576) : Ev (fun k => impl_ParseTable.f k s) (if s.toList = [] then ([], false) else if (tableT ((splA 32 s).map cellOf)).toList = s.toList then ((splA 32 s).map cellOf, true) else ([], false)) := by
  obtain ⟨h1, h2, h3⟩ := splA_side 32 s
  unfold impl_ParseTable.f
  simp only [impl_split 32 s hs, Option.bind_some]
  exact impl_pt_l0 s (splA 32 s) (by omega) (fun x hx => by have := h3 x hx; omega) (splA 32 s) [] rfl
theorem near_cells {out : List Cl} (h : tableB out = true) : out ≠ [] ∧ out.length ≤ 6 ∧ splA 32 (tableT out) = out.map cellB ∧ tableT out = joinOf (out.map cellB) ⟨#[32]⟩ := by
  obtain ⟨h6, hn, _, _⟩ := tableB_side h
  have e : tableT out = joinOf (out.map cellB) ⟨#[32]⟩ := by
    unfold tableT
    rw [if_pos h]
  have hne : out ≠ [] := fun e => by rw [e] at h6; simp at h6
  refine ⟨hne, h6.2, ?_, e⟩
  rw [e]
  refine splA_join 32 _ (by simpa using hne) (fun x hx => ?_)
  obtain ⟨c, hc, rfl⟩ := List.mem_map.1 hx
  exact cellB_no (hn c hc)
theorem impl_ptYes (out : List Cl) (h : tableB out = true) : Ev (fun k => impl_ParseTable.f k (tableT out)) (out, true) := by
  have hz := tableT_size out
  obtain ⟨hne, h6, hs, e⟩ := near_cells h
  obtain ⟨_, hn, _, _⟩ := tableB_side h
  have hm : (splA 32 (tableT out)).map cellOf = out := by
    rw [hs, List.map_map]
    conv => rhs; rw [← List.map_id out]
    exact List.map_congr_left fun c hc => cellOf_cell (hn c hc)
  have := impl_pt (tableT out) (by omega)
  rw [hm] at this
  rw [if_pos rfl] at this
  by_cases h0 : (tableT out).toList = []
  · exfalso
    have e2 : tableT out = ⟨#[]⟩ := toList_inj (by rw [h0, toList_eq])
    rw [e2] at hs
    have : splA 32 (⟨#[]⟩ : ByteArray) = [⟨#[]⟩] := rfl
    rw [this] at hs
    cases out with
    | nil => exact hne rfl
    | cons c t =>
      simp only [List.map_cons, List.cons.injEq] at hs
      have h2 : (cellB c).data.toList = [] := by rw [← hs.1]
      rw [cellB_data] at h2
      simp at h2
  · rw [if_neg h0] at this
    exact this
def Ints64 (l : List Int) : Prop := ∀ x ∈ l, -9223372036854775808 ≤ x ∧ x ≤ 9223372036854775807
theorem tot_ints (sep : ByteArray) (hs : sep.size = 1) : ∀ (l : List Int), Ints64 l → tot (l.map itoaB) sep ≤ 21 * l.length
  | [], _ => by simp [tot]
  | x :: l, h => by
    have h1 := tot_ints sep hs l (fun y hy => h y (List.mem_cons_of_mem _ hy))
    have h2 := h x List.mem_cons_self
    have h3 := itoaB_size h2.1 h2.2
    simp only [List.map_cons, tot, List.length_cons]
    omega
theorem impl_ints_l0 (sep : ByteArray) (hs : sep.size = 1) (l : List Int) (hl : l.length ≤ 1048576) (h : Ints64 l) : ∀ (suf pre : List Int), l = pre ++ suf → Ev (fun k => impl_joinInts.l0 k sep (pre.map itoaB) l (l.length : Int) (pre.length : Int)) (joinOf (l.map itoaB) sep)
  | [], pre, e => by
    refine ev_up ?_
    have e2 : l = pre := by simpa using e
    subst e2
    have := tot_ints sep hs l h
    simp only [impl_joinInts.l0, if_neg (show ¬ ((l.length : Int) < l.length) by omega), impl_join sep (l.map itoaB) (by rw [List.length_map]; omega) (by omega), Option.bind_some]
    exact Ev.now _
  | x :: suf, pre, e => by
    refine ev_up ?_
    have hlen : l.length = pre.length + suf.length + 1 := by rw [e]; simp; omega
    have hx : rd l (pre.length : Int) = x := by rw [e]; exact rd_mid _ _ _
    have hxm := h x (by rw [e]; simp)
    have hw : wrap64 ((pre.length : Int) + 1) = ((pre ++ [x]).length : Int) := by rw [pw_wrap (by omega) (by omega)]; simp
    have ih := impl_ints_l0 sep hs l hl h suf (pre ++ [x]) (by simp [e])
    simp only [impl_joinInts.l0, if_pos (show ((pre.length : Int) < l.length) by omega), if_pos (show (0 ≤ (pre.length : Int)) by omega), hx, hw, impl_fmtint hxm.1 hxm.2, Option.bind_some]
    refine Ev.congr (f := fun k => _) (fun k => if_pos (by rw [List.length_map]; omega)) ?_
    rw [List.map_append] at ih
    exact ih
theorem impl_ints (sep : ByteArray) (hs : sep.size = 1) (l : List Int) (hl : l.length ≤ 1048576) (h : Ints64 l) : Ev (fun k => impl_joinInts.f k l sep) (joinOf (l.map itoaB) sep) := by
  unfold impl_joinInts.f
  exact impl_ints_l0 sep hs l hl h l [] rfl
def surfT (r u : List Int) : ByteArray := if transB r u = true then joinOf (r.map itoaB) ⟨#[44]⟩ ++ (⟨#[124]⟩ : ByteArray) ++ joinOf (u.map itoaB) ⟨#[44]⟩ else ⟨#[]⟩
theorem perm_ints {p : List Int} (h : isPerm p) : Ints64 p := fun x hx => by have := h.2.1 x hx; have := h.1; omega
theorem perm_text {p : List Int} (h : isPerm p) (sep : ByteArray) (hs : sep.size = 1) : (joinOf (p.map itoaB) sep).size ≤ 504 := by
  have := joinOf_size sep (p.map itoaB)
  have := tot_ints sep hs p (perm_ints h)
  have := h.1
  omega
theorem surf_sz {r u : List Int} (h : transB r u = true) : (joinOf (r.map itoaB) ⟨#[44]⟩).size ≤ 504 ∧ (joinOf (u.map itoaB) ⟨#[44]⟩).size ≤ 504 ∧ (joinOf (r.map itoaB) ⟨#[44]⟩ ++ (⟨#[124]⟩ : ByteArray)).size + (joinOf (u.map itoaB) ⟨#[44]⟩).size ≤ 1009 := by
  obtain ⟨hr, hu, _⟩ := transB_side h
  have a := perm_text hr ⟨#[44]⟩ rfl
  have b := perm_text hu ⟨#[44]⟩ rfl
  have e : (⟨#[124]⟩ : ByteArray).size = 1 := rfl
  rw [ByteArray.size_append, e]
  omega
theorem impl_fmtsurf (r u : List Int) : Ev (fun k => impl_FormatSurface.f k r u) (surfT r u) := by
  unfold impl_FormatSurface.f surfT
  refine Ev.bind (impl_surfOk r u) ?_
  by_cases h : transB r u = true
  · obtain ⟨hr, hu, _⟩ := transB_side h
    obtain ⟨s1, s2, s3⟩ := surf_sz h
    simp only [if_pos h]
    refine Ev.bind (impl_ints _ rfl r (by have := hr.1; omega) (perm_ints hr)) ?_
    refine Ev.congr (f := fun k => _) (fun k => if_pos (by omega)) ?_
    refine Ev.bind (impl_ints _ rfl u (by have := hu.1; omega) (perm_ints hu)) ?_
    exact Ev.congr (fun k => if_pos (by omega)) (Ev.now _)
  · simp only [if_neg h]
    exact Ev.now _

theorem join_no (c d : UInt8) (hcd : c ≠ d) : ∀ (l : List (List UInt8)), (∀ x ∈ l, c ∉ x) → c ∉ Go.Lib.join l [d]
  | [], _ => by simp [Go.Lib.join, List.intercalate]
  | [x], h => by
    rw [show Go.Lib.join [x] [d] = x by simp [Go.Lib.join, List.intercalate]]
    exact h x (by simp)
  | x :: y :: l, h => by
    have e : Go.Lib.join (x :: y :: l) [d] = x ++ d :: Go.Lib.join (y :: l) [d] := by
      simp [Go.Lib.join, List.intercalate]
    have ih := join_no c d hcd (y :: l) (fun z hz => h z (List.mem_cons_of_mem _ hz))
    rw [e]
    intro hm
    rcases List.mem_append.1 hm with hm | hm
    · exact h x (by simp) hm
    · rcases List.mem_cons.1 hm with hm | hm
      · exact hcd hm
      · exact ih hm
theorem index_cut (c : UInt8) : ∀ (a l : List UInt8), c ∉ a → Go.Lib.index (a ++ c :: l) [c] = (a.length : Int)
  | [], l, _ => by
    rw [List.nil_append, Go.Lib.index]
    simp [List.isPrefixOf]
  | b :: a, l, h => by
    have hb : ¬ b = c := fun e => h (by simp [e])
    have ih := index_cut c a l (fun h2 => h (List.mem_cons_of_mem _ h2))
    have hp : ([c] : List UInt8).isPrefixOf (b :: (a ++ c :: l)) = false := by simp [List.isPrefixOf, Ne.symm hb]
    have h1 : ¬ (((a.length : Nat) : Int) == -1) = true := by rw [beq_iff_eq]; omega
    rw [List.cons_append, Go.Lib.index, hp, ih]
    simp only [Bool.false_eq_true, if_false, if_neg h1, List.length_cons]
    omega
theorem cut_cut (c : UInt8) (a l : List UInt8) (h : c ∉ a) : Go.Lib.cut (a ++ c :: l) [c] = (a, l, true) := by
  unfold Go.Lib.cut
  rw [index_cut c a l h, if_pos (by omega)]
  simp
theorem cut_len (c : UInt8) (l : List UInt8) : (Go.Lib.cut l [c]).1.length ≤ l.length ∧ (Go.Lib.cut l [c]).2.1.length ≤ l.length := by
  unfold Go.Lib.cut
  split
  · simp
    omega
  · simp
/-- The numbers of a permutation are small. -/
theorem perm_small {p : List Int} (h : isPerm p) : ∀ x ∈ p, 0 ≤ x ∧ x < 100 := fun x hx => by have := h.2.1 x hx; have := h.1; omega
theorem ints_no {p : List Int} (h : ∀ x ∈ p, 0 ≤ x ∧ x < 100) (c : UInt8) (hc : c.toNat < 48 ∨ 57 < c.toNat) : ∀ y ∈ p.map itoaB, c ∉ y.data.toList := by
  intro y hy
  obtain ⟨x, hx, rfl⟩ := List.mem_map.1 hy
  have := h x hx
  have e : (itoaB x).data.toList = Go.Lib.itoa x := by simp [itoaB]
  rw [e]
  exact no_sep this.1 this.2 c hc
theorem ints_back {p : List Int} (h : ∀ x ∈ p, 0 ≤ x ∧ x < 100) (hne : p ≠ []) : splA 44 (joinOf (p.map itoaB) ⟨#[44]⟩) = p.map itoaB ∧ intsOf (joinOf (p.map itoaB) ⟨#[44]⟩) = p := by
  have e := splA_join 44 (p.map itoaB) (by simpa using hne) (ints_no h 44 (by decide))
  refine ⟨e, ?_⟩
  unfold intsOf
  rw [e, List.map_map]
  conv => rhs; rw [← List.map_id p]
  refine List.map_congr_left fun x hx => ?_
  have := h x hx
  simp [pIntOf_small this.1 this.2]
def cutA (s : ByteArray) : ByteArray := ofL (Go.Lib.cut s.data.toList [124]).1
def cutB (s : ByteArray) : ByteArray := ofL (Go.Lib.cut s.data.toList [124]).2.1
theorem impl_cut (s : ByteArray) (hs : s.size ≤ 1048576) : ∃ b, strings_Cut.f s ⟨#[124]⟩ = some (cutA s, cutB s, b) := by
  refine ⟨(Go.Lib.cut s.data.toList [124]).2.2, ?_⟩
  unfold strings_Cut.f
  rw [if_pos (by omega)]
  rfl
theorem impl_ps (s : ByteArray) (hs : s.size ≤ 1048576) : Ev (fun k => impl_ParseSurface.f k s) (if s.toList = [] then ([], [], false) else if (surfT (intsOf (cutA s)) (intsOf (cutB s))).toList = s.toList then (intsOf (cutA s), intsOf (cutB s), true) else ([], [], false)) := by
  obtain ⟨b, hc⟩ := impl_cut s hs
  obtain ⟨l1, l2⟩ := cut_len 124 s.data.toList
  rw [len_data] at l1 l2
  have z1 : (cutA s).size ≤ 1048576 := by unfold cutA; rw [ofL_size]; omega
  have z2 : (cutB s).size ≤ 1048576 := by unfold cutB; rw [ofL_size]; omega
  unfold impl_ParseSurface.f
  simp only [hc, Option.bind_some]
  refine Ev.bind (impl_intsOf _ z1) ?_
  refine Ev.bind (impl_intsOf _ z2) ?_
  by_cases h0 : s.toList = []
  · simp only [if_pos h0]
    exact Ev.now _
  · simp only [if_neg h0]
    refine Ev.bind (impl_fmtsurf _ _) ?_
    by_cases h1 : (surfT (intsOf (cutA s)) (intsOf (cutB s))).toList = s.toList
    · simp only [if_pos h1]
      exact Ev.now _
    · simp only [if_neg h1]
      exact Ev.now _
theorem surf_parts {r u : List Int} (h : transB r u = true) : (surfT r u).size ≤ 1009 ∧ (surfT r u).data.toList = (joinOf (r.map itoaB) ⟨#[44]⟩).data.toList ++ 124 :: (joinOf (u.map itoaB) ⟨#[44]⟩).data.toList ∧ (124 : UInt8) ∉ (joinOf (r.map itoaB) ⟨#[44]⟩).data.toList ∧ (124 : UInt8) ∉ (joinOf (u.map itoaB) ⟨#[44]⟩).data.toList := by
  obtain ⟨hr, hu, _⟩ := transB_side h
  obtain ⟨s1, s2, s3⟩ := surf_sz h
  have e44 : (⟨#[44]⟩ : ByteArray).data.toList = [44] := rfl
  have no : ∀ p : List Int, isPerm p → (124 : UInt8) ∉ (joinOf (p.map itoaB) ⟨#[44]⟩).data.toList := by
    intro p hp
    rw [joinOf_data, e44]
    refine join_no 124 44 (by decide) _ (fun x hx => ?_)
    obtain ⟨y, hy, rfl⟩ := List.mem_map.1 hx
    exact ints_no (perm_small hp) 124 (by decide) y hy
  refine ⟨?_, ?_, no r hr, no u hu⟩
  · unfold surfT
    rw [if_pos h, ByteArray.size_append]
    omega
  · unfold surfT
    rw [if_pos h]
    simp [ByteArray.data_append]
theorem impl_psYes (r u : List Int) (h : transB r u = true) : Ev (fun k => impl_ParseSurface.f k (surfT r u)) (r, u, true) := by
  obtain ⟨hr, hu, hl, h0, _⟩ := transB_side h
  obtain ⟨z, e, n1, n2⟩ := surf_parts h
  have hrne : r ≠ [] := List.length_pos_iff.1 h0
  have hune : u ≠ [] := List.length_pos_iff.1 (by omega)
  have hA : cutA (surfT r u) = joinOf (r.map itoaB) ⟨#[44]⟩ := by
    unfold cutA
    rw [e, cut_cut 124 _ _ n1]
    exact ofL_self _
  have hB : cutB (surfT r u) = joinOf (u.map itoaB) ⟨#[44]⟩ := by
    unfold cutB
    rw [e, cut_cut 124 _ _ n1]
    exact ofL_self _
  have := impl_ps (surfT r u) (by omega)
  rw [hA, hB, (ints_back (perm_small hr) hrne).2, (ints_back (perm_small hu) hune).2, if_pos rfl] at this
  have hne : ¬ (surfT r u).toList = [] := by
    rw [toList_eq, e]
    simp
  rw [if_neg hne] at this
  exact this
def cycT (c : List Int) : ByteArray := (⟨#[40]⟩ : ByteArray) ++ joinOf (c.map itoaB) ⟨#[32]⟩ ++ (⟨#[41]⟩ : ByteArray)
def cycsT : List (List Int) → ByteArray → ByteArray
  | [], acc => acc
  | c :: cs, acc => cycsT cs (if c.length > 1 then acc ++ cycT c else acc)
def endT (t : ByteArray) : ByteArray := if t.toList = ([] : List UInt8) then ⟨#[40, 41]⟩ else t
theorem good_ints {c : List Int} (h : GoodC c) : Ints64 c := fun x hx => by have := h.1 x hx; omega
theorem cyc_sz {c : List Int} (h : GoodC c) : (joinOf (c.map itoaB) ⟨#[32]⟩).size ≤ 504 := by
  have := joinOf_size ⟨#[32]⟩ (c.map itoaB)
  have := tot_ints ⟨#[32]⟩ rfl c (good_ints h)
  have := h.2
  omega
theorem one_sz (b : UInt8) : (⟨#[b]⟩ : ByteArray).size = 1 := id rfl
theorem rdL_mid' (pre suf : List (List Int)) (x : List Int) : rd_L2 (pre ++ x :: suf) (pre.length : Int) = x := by simp [rd_L2, List.getD]
theorem impl_fmtperm_l0 (l : List (List Int)) (hl : l.length ≤ 24) (h : ∀ c ∈ l, GoodC c) : ∀ (suf pre : List (List Int)) (acc : ByteArray), l = pre ++ suf → acc.size ≤ 600 * pre.length → Ev (fun k => impl_FormatPerm.l0 k acc l (l.length : Int) (pre.length : Int)) (endT (cycsT suf acc))
  | [], pre, acc, e, ha => by
    refine ev_up ?_
    have e2 : l = pre := by simpa using e
    subst e2
    simp only [impl_FormatPerm.l0, if_neg (show ¬ ((l.length : Int) < l.length) by omega), cycsT]
    by_cases hz : acc.toList = ([] : List UInt8)
    · simp only [if_pos hz]
      rw [show endT acc = _ from if_pos hz]
      exact Ev.now _
    · simp only [if_neg hz]
      rw [show endT acc = _ from if_neg hz]
      exact Ev.now _
  | x :: suf, pre, acc, e, ha => by
    refine ev_up ?_
    have hlen : l.length = pre.length + suf.length + 1 := by rw [e]; simp; omega
    have hx : rd_L2 l (pre.length : Int) = x := by rw [e]; exact rdL_mid' _ _ _
    have hg := h x (by rw [e]; simp)
    have hs := cyc_sz hg
    have hw : wrap64 ((pre.length : Int) + 1) = ((pre ++ [x]).length : Int) := by rw [pw_wrap (by omega) (by omega)]; simp
    simp only [impl_FormatPerm.l0, if_pos (show ((pre.length : Int) < l.length) by omega), if_pos (show (0 ≤ (pre.length : Int)) by omega), hx, hw, cycsT]
    by_cases h1 : x.length > 1
    · simp only [if_pos (show (x.length : Int) > 1 by omega), if_pos h1]
      have ih := impl_fmtperm_l0 l hl h suf (pre ++ [x]) (acc ++ cycT x) (by simp [e]) (by
        unfold cycT
        simp only [ByteArray.size_append, one_sz, List.length_append, List.length_cons, List.length_nil]
        omega)
      refine Ev.bind (impl_ints _ rfl x (by have := hg.2; omega) (good_ints hg)) ?_
      refine Ev.congr (f := fun k => _) (fun k => ((if_pos (by omega)).trans (if_pos (by simp only [ByteArray.size_append, one_sz]; omega))).trans (if_pos (by simp only [ByteArray.size_append, one_sz]; omega))) ?_
      exact ih
    · simp only [if_neg (show ¬ (x.length : Int) > 1 by omega), if_neg h1]
      exact impl_fmtperm_l0 l hl h suf (pre ++ [x]) acc (by simp [e]) (by simp only [List.length_append, List.length_cons, List.length_nil]; omega)
def permT (p : List Int) : ByteArray := if permB p = true then endT (cycsT (cyclesOf p) ⟨#[]⟩) else ⟨#[]⟩
theorem impl_fmtperm (p : List Int) : Ev (fun k => impl_FormatPerm.f k p) (permT p) := by
  unfold impl_FormatPerm.f permT
  simp only [impl_PermOk.f, Option.bind_some]
  by_cases h : permB p = true
  · simp only [if_pos h]
    refine Ev.bind (impl_cycles p) ?_
    have hb := cyclesOf_bd p
    exact impl_fmtperm_l0 _ hb.2 hb.1 _ [] ⟨#[]⟩ rfl (Nat.zero_le _)
  · simp only [if_neg h]
    exact Ev.now _

theorem equal_l0 (l : List Int) (hl : l.length ≤ 2147483648) : ∀ (suf pre : List Int), l = pre ++ suf → Ev (fun k => slices_Equal_int_int.l0 k l l (l.length : Int) (pre.length : Int)) true
  | [], pre, e => by
    have e2 : l = pre := by simpa using e
    subst e2
    refine ev_up ?_
    simp only [slices_Equal_int_int.l0, if_neg (show ¬ ((l.length : Int) < l.length) by omega)]
    exact Ev.now _
  | c :: suf, pre, e => by
    have hlen : l.length = pre.length + suf.length + 1 := by rw [e]; simp; omega
    have hw : wrap64 ((pre.length : Int) + 1) = ((pre ++ [c]).length : Int) := by rw [pw_wrap (by omega) (by omega)]; simp
    have ih := equal_l0 l hl suf (pre ++ [c]) (by simp [e])
    refine ev_up ?_
    simp only [slices_Equal_int_int.l0, if_pos (show ((pre.length : Int) < l.length) by omega), if_pos (Int.natCast_nonneg pre.length), if_true, hw]
    exact ih
theorem same_list (l : List Int) (hl : l.length ≤ 2147483648) : Ev (fun k => impl_SameList.f k l l) true := by
  unfold impl_SameList.f
  refine Ev.bind (a := true) ?_ (Ev.now _)
  unfold slices_Equal_int_int.f
  simp only [if_true]
  exact equal_l0 l hl l [] rfl
theorem same_surface (r u : List Int) (hr : r.length ≤ 2147483648) (hu : u.length ≤ 2147483648) : Ev (fun k => impl_SameSurface.f k r u r u) true := by
  unfold impl_SameSurface.f
  refine Ev.bind (same_list r hr) ?_
  simp only [if_true]
  refine Ev.bind (same_list u hu) ?_
  exact Ev.now _
theorem permT_ne {p : List Int} (h : isPerm p) : (permT p).toList ≠ [] := by
  unfold permT
  rw [if_pos ((permB_iff p).2 h)]
  unfold endT
  split
  · rw [toList_eq]
    simp
  · assumption
theorem texts_l0 (m : List Cl) (hm : m.length ≤ 100) {r : List Int} (hr : isPerm r) (u : List Int) : ∀ (suf pre : List Cl), m = pre ++ suf → Ev (fun k => laws_FnTexts.l0 k m m (m.length : Int) (pre.length : Int) r u) true
  | [], pre, e => by
    have e2 : m = pre := by simpa using e
    subst e2
    refine ev_up ?_
    simp only [laws_FnTexts.l0, if_neg (show ¬ ((m.length : Int) < m.length) by omega)]
    refine Ev.bind (impl_fmtperm r) ?_
    rw [show ((permT r).toList != ([] : List UInt8)) = true by rw [bne_iff_ne]; exact permT_ne hr]
    exact Ev.now _
  | c :: suf, pre, e => by
    have hlen : m.length = pre.length + suf.length + 1 := by rw [e]; simp; omega
    have hw : wrap64 ((pre.length : Int) + 1) = ((pre ++ [c]).length : Int) := by rw [pw_wrap (by omega) (by omega)]; simp
    have ih := texts_l0 m hm hr u suf (pre ++ [c]) (by simp [e])
    refine ev_up ?_
    simp only [laws_FnTexts.l0, if_pos (show ((pre.length : Int) < m.length) by omega), if_pos (Int.natCast_nonneg pre.length), hw, beq_self_eq_true, Bool.not_true, Bool.or_self, Bool.false_eq_true, if_false]
    exact ih
theorem FnTexts : laws_FnTexts.Pure := by
  intro l hl _
  apply Ev.rounds
  unfold laws_FnTexts.f
  by_cases hc : (l.length : Int) > 1048576
  · simp only [if_pos hc]
    exact Ev.now _
  · obtain ⟨r, u, es, ht⟩ := surface_some l (by omega)
    obtain ⟨m, et, hb, hm⟩ := table_some l (by omega)
    obtain ⟨hr, hu, he, h0, _⟩ := transB_side ht
    have hrn := hr.1
    have hun := hu.1
    simp only [if_neg hc]
    refine Ev.bind es ?_
    refine Ev.bind et ?_
    refine Ev.bind (impl_fmtsurf r u) ?_
    refine Ev.bind (impl_psYes r u ht) ?_
    refine Ev.bind (impl_fmttable m) ?_
    refine Ev.bind (impl_ptYes m hb) ?_
    simp only [if_true]
    refine Ev.bind (impl_surfOk r u) ?_
    simp only [if_pos ht]
    refine Ev.bind (same_surface r u (by omega) (by omega)) ?_
    simp only [if_true, bne_self_eq_false]
    refine ev_up ?_
    simp only [laws_FnTexts.j0, Bool.false_eq_true, if_false]
    exact texts_l0 m (by omega) hr u m [] rfl

end Go.Proofs.YtfomhkfgdggngaaGreatDoor.Pure
