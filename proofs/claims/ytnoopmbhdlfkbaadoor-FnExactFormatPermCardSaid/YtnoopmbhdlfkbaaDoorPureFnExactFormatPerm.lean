/- The program's FormatPerm returns what the reference's returns, for all arguments: no condition. -/
import Derived.Test.YtnoopmbhdlfkbaaDoorSayFnExactFormatPerm
namespace Go.Proofs.YtnoopmbhdlfkbaaDoor.Pure
open Go.RowKit Go.Proofs.YtnoopmbhdlfkbaaDoor.S Go.Proofs.YtnoopmbhdlfkbaaDoorW.PrintWords Go.Proofs.YtnoopmbhdlfkbaaDoorW.PrintLast
set_option linter.unusedVariables false
set_option linter.unusedSimpArgs false

theorem ev_up {α : Type} {g : Nat → Option α} {r : α} (h : Ev (fun k => g (k + 1)) r) : Ev g r := Ev.step (fun _ => rfl) h
theorem ev_k {α : Type} {g : Nat → Option α} {r : α} {n : Nat} (h : ∀ k, n < k → g k = some r) : Ev g r := ⟨n + 1, fun k hk => h k (by omega)⟩

theorem pw_wf {a : Int} (h : (Lit.int .i64 a).wf = true) : -9223372036854775808 ≤ a ∧ a ≤ 9223372036854775807 := by
  simp [Lit.wf, IntKind.min, IntKind.max, IntKind.signed, IntKind.bits] at h
  omega
theorem pw_wrap {a : Int} (h0 : -9223372036854775808 ≤ a) (h1 : a ≤ 9223372036854775807) : wrap64 a = a := by
  unfold wrap64
  omega

/-- A permutation of at most 24 elements. -/
def isPerm (p : List Int) : Prop := p.length ≤ 24 ∧ (∀ x ∈ p, 0 ≤ x ∧ x < (p.length : Int)) ∧ p.Nodup
theorem perm_go (n : Nat) (hn : n ≤ 24) : ∀ (p pre : List Int) (seen : List Bool), seen.length = 24 → (∀ x : Int, 0 ≤ x → x < n → (seen.getD x.toNat false = true ↔ x ∈ pre)) →
    permGo n p seen = permSGo n pre p := by
  intro p
  induction p with
  | nil => intro pre seen _ _; rfl
  | cons x p ih =>
    intro pre seen hl hs
    simp only [permGo, permSGo]
    by_cases h0 : x < 0
    · rw [if_pos h0, if_neg (by omega)]
    · rw [if_neg h0]
      by_cases h1 : (n : Int) ≤ x
      · rw [if_pos h1, if_neg (by omega)]
      · rw [if_neg h1, if_pos (show 0 ≤ x ∧ x ≤ (n : Int) - 1 by omega)]
        have hx := hs x (by omega) (by omega)
        by_cases h2 : x ∈ pre
        · rw [if_pos (hx.2 h2), if_pos h2]
        · rw [if_neg (fun h => h2 (hx.1 h)), if_neg h2]
          refine ih _ _ (by simpa using hl) (fun y hy0 hy1 => ?_)
          by_cases hxy : x = y
          · subst hxy
            have : x.toNat < seen.length := by omega
            simp [List.getD, this]
          · have hne : x.toNat ≠ y.toNat := by omega
            have := hs y hy0 hy1
            simp only [List.getD, List.getElem?_set_ne hne]
            rw [List.getD] at this
            rw [this]
            simp [Ne.symm hxy]
theorem perm_same (p : List Int) : permB p = permSB p := by
  unfold permB permSB
  by_cases h : p.length ≤ 24
  · rw [if_pos h, if_pos h]
    refine perm_go p.length h p [] no24 rfl (fun x h0 h1 => ?_)
    have : no24.getD x.toNat false = false := by
      unfold no24
      simp only [List.getD, List.getElem?_replicate]
      split <;> rfl
    rw [this]
    simp
  · rw [if_neg h, if_neg h]
theorem permS_iff (n : Nat) : ∀ (p pre : List Int), permSGo n pre p = true ↔ ((∀ x ∈ p, 0 ≤ x ∧ x < (n : Int)) ∧ (∀ x ∈ p, x ∉ pre) ∧ p.Nodup)
  | [], pre => by simp [permSGo]
  | x :: p, pre => by
    simp only [permSGo]
    by_cases h : 0 ≤ x ∧ x ≤ (n : Int) - 1
    · rw [if_pos h]
      by_cases h2 : x ∈ pre
      · rw [if_pos h2]
        simp [h2]
      · rw [if_neg h2, permS_iff n p (pre ++ [x])]
        simp only [List.mem_cons, forall_eq_or_imp, List.nodup_cons]
        constructor
        · rintro ⟨h3, h4, h5⟩
          exact ⟨⟨by omega, h3⟩, ⟨h2, fun y hy hp => h4 y hy (List.mem_append.2 (.inl hp))⟩, fun hx => h4 x hx (List.mem_append.2 (.inr (List.mem_singleton.2 rfl))), h5⟩
        · rintro ⟨h3, h4, h5, h6⟩
          refine ⟨h3.2, fun y hy hp => ?_, h6⟩
          rcases List.mem_append.1 hp with hp | hp
          · exact h4.2 y hy hp
          · rw [List.mem_singleton.1 hp] at hy
            exact h5 hy
    · rw [if_neg h]
      simp only [Bool.false_eq_true, List.mem_cons, forall_eq_or_imp, false_iff]
      intro h2
      omega
theorem permB_iff (p : List Int) : permB p = true ↔ isPerm p := by
  rw [perm_same]
  unfold permSB isPerm
  by_cases h : p.length ≤ 24
  · rw [if_pos h, permS_iff]
    simp [h]
  · rw [if_neg h]
    simp [h]

/-! Lists without a number twice; what is met from a place. -/
theorem nodup_len (n : Nat) : ∀ l : List Int, l.Nodup → (∀ x ∈ l, 0 ≤ x ∧ x < n) → l.length ≤ n := by
  induction n with
  | zero =>
    intro l _ h
    cases l with
    | nil => simp
    | cons x l => have := h x (by simp); omega
  | succ n ih =>
    intro l hn h
    have h2 := ih (l.filter (fun x => x != (n : Int))) (hn.filter _) (fun x hx => by
      have h3 := List.mem_filter.1 hx
      have h4 := h x h3.1
      have h5 : x ≠ (n : Int) := by simpa using h3.2
      omega)
    have h3 : l.length ≤ (l.filter (fun x => x != (n : Int))).length + 1 := by
      clear h h2 ih
      induction l with
      | nil => simp
      | cons y l ihl =>
        have hn2 := List.nodup_cons.1 hn
        by_cases hy : y = (n : Int)
        · have : l.filter (fun x => x != (n : Int)) = l := List.filter_eq_self.2 (fun x hx => by
            have : x ≠ (n : Int) := fun e => hn2.1 (by rw [hy, ← e]; exact hx)
            simpa using this)
          simp [hy, this]
        · have := ihl hn2.2
          simp [hy]
          omega
    omega
def push (q : List Int) (k : Int) : List Int := if 0 ≤ k ∧ k ∉ q then q ++ [k] else q
def pushAll (q : List Int) (ks : List Int) : List Int := ks.foldl push q
/-- Distinct numbers below n. -/
def Few (n : Nat) (q : List Int) : Prop := q.Nodup ∧ ∀ x ∈ q, 0 ≤ x ∧ x < (n : Int)
theorem few_push {n : Nat} {q : List Int} {k : Int} (h : Few n q) (hk : k < n) : Few n (push q k) := by
  unfold push
  split
  · rename_i h2
    refine ⟨?_, fun x hx => ?_⟩
    · rw [List.nodup_append]
      refine ⟨h.1, by simp, ?_⟩
      intro a ha b hb
      simp at hb
      subst hb
      exact fun e => h2.2 (e ▸ ha)
    · rcases List.mem_append.1 hx with hx | hx
      · exact h.2 x hx
      · simp at hx; subst hx; exact ⟨h2.1, hk⟩
  · exact h
theorem push_len (q : List Int) (k : Int) : q.length ≤ (push q k).length := by unfold push; split <;> simp
theorem few_pushAll {n : Nat} : ∀ (ks q : List Int), Few n q → (∀ k ∈ ks, k < n) → Few n (pushAll q ks) ∧ q.length ≤ (pushAll q ks).length
  | [], q, h, _ => ⟨h, Nat.le_refl _⟩
  | k :: ks, q, h, hk => by
    have h1 := few_push h (hk k (by simp))
    have h2 := few_pushAll ks (push q k) h1 (fun x hx => hk x (by simp [hx]))
    exact ⟨h2.1, Nat.le_trans (push_len q k) h2.2⟩
theorem few_len {n : Nat} {q : List Int} (h : Few n q) : q.length ≤ n := nodup_len n q h.1 h.2
/-- The queue behind the places from 'at_' on. -/
def bfs (nb : Int → List Int) : Nat → List Int → Nat → List Int
  | 0, q, _ => q
  | f + 1, q, i => if h : i < q.length then bfs nb f (pushAll q (nb q[i])) (i + 1) else q
theorem bfs_done (nb : Int → List Int) (f : Nat) (q : List Int) (i : Nat) (h : ¬ i < q.length) : bfs nb f q i = q := by
  cases f with
  | zero => rfl
  | succ f => rw [bfs, dif_neg h]
theorem bfs_few {n : Nat} (nb : Int → List Int) (hnb : ∀ x : Int, 0 ≤ x → x < (n : Int) → ∀ k ∈ nb x, k < (n : Int)) : ∀ (f : Nat) (q : List Int) (i : Nat), Few n q → Few n (bfs nb f q i)
  | 0, q, i, h => h
  | f + 1, q, i, h => by
    rw [bfs]
    split
    · rename_i hi
      have := h.2 _ (List.getElem_mem hi)
      exact bfs_few nb hnb f _ _ (few_pushAll (nb q[i]) q h (hnb q[i] this.1 this.2)).1
    · exact h

/-! Small words on lists, read at a place. -/
theorem len_snoc {α : Type} (p : List α) (x : α) : (p ++ [x]).length = p.length + 1 := by simp
theorem wrap_snoc {α : Type} {p s : List α} {x : α} (h : (p ++ x :: s).length ≤ 4611686018427387904) : wrap64 ((p.length : Int) + 1) = ((p ++ [x]).length : Int) := by
  simp at h ⊢
  unfold wrap64
  omega
theorem lt_mid {α : Type} (p s : List α) (x : α) : ((p.length : Nat) : Int) < ((p ++ x :: s).length : Int) := by simp; omega
theorem nlt_end {α : Type} (p : List α) : ¬ ((p.length : Nat) : Int) < ((p ++ []).length : Int) := by simp
theorem rd_mid (p s : List Int) (x : Int) : rd (p ++ x :: s) (p.length : Int) = x := by simp [rd, List.getD]
theorem nil_or_snoc {α : Type} (l : List α) : l = [] ∨ ∃ p x, l = p ++ [x] := by
  rcases List.eq_nil_or_concat l with h | ⟨p, x, h⟩
  · exact .inl h
  · exact .inr ⟨p, x, by rw [h]; simp⟩

/-- Which of the numbers below n are on the list. -/
def flagsOf (n : Nat) (q : List Int) : List Bool := (List.range n).map (fun (i : Nat) => decide ((i : Int) ∈ q))
theorem flagsOf_len (n : Nat) (q : List Int) : (flagsOf n q).length = n := by simp [flagsOf]
theorem flagsOf_nil (n : Nat) : flagsOf n [] = List.replicate n false := by
  apply List.ext_getElem?
  intro i
  by_cases h : i < n <;> simp [flagsOf, List.getElem?_replicate, h]
theorem flagsOf_rd (n : Nat) (q : List Int) {x : Int} (h0 : 0 ≤ x) (h1 : x < n) : rdOf false (flagsOf n q) x = decide (x ∈ q) := by
  have e : ((x.toNat : Nat) : Int) = x := by omega
  simp [rdOf, flagsOf, List.getD, show x.toNat < n by omega, e]
theorem flagsOf_set (n : Nat) (q : List Int) {x : Int} (h0 : 0 ≤ x) (h1 : x < n) : (flagsOf n q).set x.toNat true = flagsOf n (q ++ [x]) := by
  apply List.ext_getElem?
  intro i
  have hl : x.toNat < (flagsOf n q).length := by rw [flagsOf_len]; omega
  by_cases h : i = x.toNat
  · subst h
    have e : ((x.toNat : Nat) : Int) = x := by omega
    simp [flagsOf, show x.toNat < n by omega, e]
  · have hne : ((i : Nat) : Int) ≠ x := by omega
    rw [List.getElem?_set_ne (by omega)]
    by_cases hi : i < n <;> simp [flagsOf, hi, hne]
theorem rd_get (q : List Int) (i : Nat) (h : i < q.length) : rd q (i : Int) = q[i] := by simp [rd, List.getD, h]
theorem perm_rd {p : List Int} (h : isPerm p) {x : Int} (h0 : 0 ≤ x) (h1 : x < p.length) : 0 ≤ rd p x ∧ rd p x < (p.length : Int) := by
  have e : rd p x = p[x.toNat]'(by omega) := by simp [rd, List.getD, show x.toNat < p.length by omega]
  rw [e]
  exact h.2.1 _ (List.getElem_mem _)

/-- One cycle, from x on: the numbers met by then, the cycle. -/
def walkC (p : List Int) : Nat → List Int → List Int → Int → List Int × List Int
  | 0, q, c, _ => (q, c)
  | f + 1, q, c, x => if x ∈ q then (q, c) else walkC p f (q ++ [x]) (c ++ [x]) (rd p x)
def walkOf (p q : List Int) (i : Int) : List Int × List Int := walkC p (p.length + 1 - q.length) q [] i
def cycGo (p : List Int) : Nat → Int → List Int → List (List Int) → List (List Int)
  | 0, _, _, out => out
  | d + 1, i, q, out => cycGo p d (i + 1) (walkOf p q i).1 (if i ∈ q then out else out ++ [(walkOf p q i).2])
def cyclesOf (p : List Int) : List (List Int) := if permB p = true then cycGo p p.length 0 [] [] else []
theorem few_full {n : Nat} {q : List Int} (h : Few n q) (hl : q.length = n) {x : Int} (h0 : 0 ≤ x) (h1 : x < n) : x ∈ q := by
  refine Classical.byContradiction fun hm => ?_
  have hf := few_push h h1
  have := few_len hf
  unfold push at this
  rw [if_pos ⟨h0, hm⟩] at this
  simp at this
  omega
theorem few_snoc {n : Nat} {q : List Int} (h : Few n q) {x : Int} (h0 : 0 ≤ x) (h1 : x < n) (hm : x ∉ q) : Few n (q ++ [x]) := by
  have hf := few_push h h1
  unfold push at hf
  rw [if_pos ⟨h0, hm⟩] at hf
  exact hf
theorem walkC_bd {p : List Int} (hp : isPerm p) : ∀ (f : Nat) (q c : List Int) (x : Int), Few p.length q → c.length ≤ q.length → (∀ y ∈ c, 0 ≤ y ∧ y < (p.length : Int)) → 0 ≤ x → x < p.length →
    Few p.length (walkC p f q c x).1 ∧ (walkC p f q c x).2.length ≤ (walkC p f q c x).1.length ∧ (∀ y ∈ (walkC p f q c x).2, 0 ≤ y ∧ y < (p.length : Int)) ∧ c.length ≤ (walkC p f q c x).2.length
  | 0, q, c, x, hq, hc, hv, h0, h1 => ⟨hq, hc, hv, Nat.le_refl _⟩
  | f + 1, q, c, x, hq, hc, hv, h0, h1 => by
    rw [walkC]
    by_cases hm : x ∈ q
    · rw [if_pos hm]
      exact ⟨hq, hc, hv, Nat.le_refl _⟩
    · rw [if_neg hm]
      have hx := perm_rd hp h0 h1
      have := walkC_bd hp f (q ++ [x]) (c ++ [x]) (rd p x) (few_snoc hq h0 h1 hm) (by simp; omega) (fun y hy => by
        rcases List.mem_append.1 hy with hy | hy
        · exact hv y hy
        · simp at hy; subst hy; exact ⟨h0, h1⟩) hx.1 hx.2
      refine ⟨this.1, this.2.1, this.2.2.1, ?_⟩
      have := this.2.2.2
      simp at this
      omega
def GoodC (c : List Int) : Prop := (∀ y ∈ c, 0 ≤ y ∧ y < 24) ∧ c.length ≤ 24
theorem walkOf_bd {p q : List Int} (hp : isPerm p) (hq : Few p.length q) {i : Int} (h0 : 0 ≤ i) (h1 : i < p.length) : Few p.length (walkOf p q i).1 ∧ GoodC (walkOf p q i).2 := by
  have h := walkC_bd hp (p.length + 1 - q.length) q [] i hq (by simp) (by simp) h0 h1
  have hn := hp.1
  have hl := few_len h.1
  refine ⟨h.1, fun y hy => ?_, ?_⟩
  · have := h.2.2.1 y hy
    omega
  · have h2 := h.2.1
    have e : (walkC p (p.length + 1 - q.length) q [] i) = walkOf p q i := rfl
    rw [e] at h2 hl
    omega
theorem walkOf_ne {p q : List Int} (hp : isPerm p) (hq : Few p.length q) {i : Int} (h0 : 0 ≤ i) (h1 : i < p.length) (hm : i ∉ q) : 0 < (walkOf p q i).2.length := by
  have hl := few_len (few_snoc hq h0 h1 hm)
  simp at hl
  unfold walkOf
  obtain ⟨f, hf⟩ : ∃ f, p.length + 1 - q.length = f + 1 := ⟨p.length - q.length, by omega⟩
  rw [hf, walkC, if_neg hm]
  have hx := perm_rd hp h0 h1
  have := (walkC_bd hp f (q ++ [i]) ([] ++ [i]) (rd p i) (few_snoc hq h0 h1 hm) (by simp) (fun y hy => by simp at hy; subst hy; exact ⟨h0, h1⟩) hx.1 hx.2).2.2.2
  simp at this
  exact this
theorem walkOf_in {p q : List Int} (hq : Few p.length q) {i : Int} (hm : i ∈ q) : walkOf p q i = (q, []) := by
  unfold walkOf
  have hl := few_len hq
  obtain ⟨f, hf⟩ : ∃ f, p.length + 1 - q.length = f + 1 := ⟨p.length - q.length, by omega⟩
  rw [hf, walkC, if_pos hm]
theorem cycGo_bd {p : List Int} (hp : isPerm p) : ∀ (d : Nat) (i : Int) (q : List Int) (out : List (List Int)), 0 ≤ i → i + d = p.length → Few p.length q → (∀ c ∈ out, GoodC c) →
    (∀ c ∈ cycGo p d i q out, GoodC c) ∧ (cycGo p d i q out).length ≤ out.length + d
  | 0, _, _, out, _, _, _, ho => ⟨ho, Nat.le_refl _⟩
  | d + 1, i, q, out, h0, hi, hq, ho => by
    have hw := walkOf_bd hp hq h0 (show i < p.length by omega)
    simp only [cycGo]
    by_cases hm : i ∈ q
    · rw [if_pos hm]
      have := cycGo_bd hp d (i + 1) (walkOf p q i).1 out (by omega) (by omega) hw.1 ho
      exact ⟨this.1, by have := this.2; omega⟩
    · rw [if_neg hm]
      have := cycGo_bd hp d (i + 1) (walkOf p q i).1 (out ++ [(walkOf p q i).2]) (by omega) (by omega) hw.1 (fun c hc => by
        rcases List.mem_append.1 hc with hc | hc
        · exact ho c hc
        · simp at hc; subst hc; exact hw.2)
      refine ⟨this.1, ?_⟩
      have := this.2
      simp at this
      omega
theorem cyclesOf_bd (p : List Int) : (∀ c ∈ cyclesOf p, GoodC c) ∧ (cyclesOf p).length ≤ 24 := by
  unfold cyclesOf
  by_cases h : permB p = true
  · rw [if_pos h]
    have hp := (permB_iff p).1 h
    have := cycGo_bd hp p.length 0 [] [] (by omega) (by omega) ⟨by simp, by simp⟩ (by simp)
    refine ⟨this.1, ?_⟩
    have := this.2
    have := hp.1
    simp at *
    omega
  · rw [if_neg h]
    simp
theorem spec_cyc_l1 {p : List Int} (hp : isPerm p) (out : List (List Int)) (ho : out.length ≤ 24) (i : Int) (hi : 0 ≤ i ∧ i < p.length) (r : List (List Int)) : ∀ (f : Nat) (q c : List Int) (x : Int), Few p.length q → c.length ≤ q.length → f + q.length = p.length + 1 → 0 ≤ x → x < p.length →
    Ev (fun k => spec_CyclesOf.l0 k p (if 0 < (walkC p f q c x).2.length then out ++ [(walkC p f q c x).2] else out) (flagsOf p.length (walkC p f q c x).1) (p.length : Int) (i + 1)) r →
    Ev (fun k => spec_CyclesOf.l1 k p out (flagsOf p.length q) c x (p.length : Int) i) r
  | 0, q, c, x, hq, _, hf, _, _, _ => by
    have := few_len hq
    omega
  | f + 1, q, c, x, hq, hc, hf, h0, h1, hr => by
    have hn := hp.1
    have hql := few_len hq
    refine ev_up ?_
    have hw : wrap64 (i + 1) = i + 1 := pw_wrap (by omega) (by omega)
    simp only [spec_CyclesOf.l1, if_pos h0, flagsOf_len, if_pos h1, flagsOf_rd p.length q h0 h1, hw]
    rw [walkC] at hr
    by_cases hm : x ∈ q
    · rw [if_pos hm] at hr
      simp only [decide_eq_true hm, if_true]
      by_cases hz : 0 < c.length
      · rw [if_pos hz] at hr
        simp only [if_pos (show (c.length : Int) > 0 by omega), if_pos (show out.length < 5864062014805 by omega)]
        exact hr
      · rw [if_neg hz] at hr
        simp only [if_neg (show ¬ (c.length : Int) > 0 by omega)]
        exact hr
    · rw [if_neg hm] at hr
      simp only [decide_eq_false hm, Bool.false_eq_true, if_false, if_pos (show c.length < 17592186044416 by omega), flagsOf_set p.length q h0 h1]
      have hx := perm_rd hp h0 h1
      exact spec_cyc_l1 hp out ho i hi r f (q ++ [x]) (c ++ [x]) (rd p x) (few_snoc hq h0 h1 hm) (by simp; omega) (by simp; omega) hx.1 hx.2 hr
theorem spec_cyc_l0 {p : List Int} (hp : isPerm p) : ∀ (d : Nat) (i : Int) (q : List Int) (out : List (List Int)), 0 ≤ i → i + d = p.length → Few p.length q → out.length + d ≤ 24 →
    Ev (fun k => spec_CyclesOf.l0 k p out (flagsOf p.length q) (p.length : Int) i) (cycGo p d i q out)
  | 0, i, q, out, h0, hi, hq, ho => by
    refine ev_up ?_
    simp only [spec_CyclesOf.l0, if_neg (show ¬ i < (p.length : Int) by omega)]
    exact Ev.now _
  | d + 1, i, q, out, h0, hi, hq, ho => by
    refine ev_up ?_
    have h1 : i < (p.length : Int) := by omega
    simp only [spec_CyclesOf.l0, if_pos h1]
    have hql := few_len hq
    refine spec_cyc_l1 hp out (by omega) i ⟨h0, h1⟩ _ (p.length + 1 - q.length) q [] i hq (by simp) (by omega) h0 h1 ?_
    have e : walkC p (p.length + 1 - q.length) q [] i = walkOf p q i := rfl
    rw [e, cycGo]
    have hw := walkOf_bd hp hq h0 h1
    by_cases hm : i ∈ q
    · rw [if_pos hm, walkOf_in hq hm, if_neg (by simp)]
      exact spec_cyc_l0 hp d (i + 1) q out (by omega) (by omega) hq (by omega)
    · rw [if_neg hm, if_pos (walkOf_ne hp hq h0 h1 hm)]
      exact spec_cyc_l0 hp d (i + 1) _ _ (by omega) (by omega) hw.1 (by simp; omega)
theorem spec_cycles (p : List Int) : Ev (fun k => spec_CyclesOf.f k p) (cyclesOf p) := by
  unfold spec_CyclesOf.f cyclesOf
  simp only [spec_PermOk.f, ← perm_same, Option.bind_some]
  by_cases h : permB p = true
  · have hp := (permB_iff p).1 h
    have hn := hp.1
    simp only [if_pos h, if_pos (Int.natCast_nonneg p.length), Int.toNat_natCast, if_pos (show p.length ≤ 281474976710656 by omega), ← flagsOf_nil]
    exact spec_cyc_l0 hp p.length 0 [] [] (by omega) (by omega) ⟨by simp, by simp⟩ (by simp; omega)
  · simp only [if_neg h]
    exact Ev.now _
theorem impl_cyc_l1 {p : List Int} (hp : isPerm p) (out : List (List Int)) (ho : out.length ≤ 24) (i : Int) (hi : 0 ≤ i ∧ i < p.length) (r : List (List Int)) : ∀ (f : Nat) (q c : List Int) (x : Int), Few p.length q → c.length ≤ q.length → f + q.length = p.length + 1 → 0 ≤ x → x < p.length →
    Ev (fun k => impl_CyclesOf.l0 k p (flagsOf p.length (walkC p f q c x).1) (out ++ [(walkC p f q c x).2]) (p.length : Int) (i + 1)) r →
    Ev (fun k => impl_CyclesOf.l1 k p (flagsOf p.length q) out c x (p.length : Int) i) r
  | 0, q, c, x, hq, _, hf, _, _, _ => by
    have := few_len hq
    omega
  | f + 1, q, c, x, hq, hc, hf, h0, h1, hr => by
    have hn := hp.1
    have hql := few_len hq
    refine ev_up ?_
    have hw : wrap64 (i + 1) = i + 1 := pw_wrap (by omega) (by omega)
    simp only [impl_CyclesOf.l1, if_pos h0, flagsOf_len, if_pos h1, flagsOf_rd p.length q h0 h1, hw]
    rw [walkC] at hr
    by_cases hm : x ∈ q
    · rw [if_pos hm] at hr
      simp only [decide_eq_true hm, if_true, if_pos (show out.length < 5864062014805 by omega)]
      exact hr
    · rw [if_neg hm] at hr
      simp only [decide_eq_false hm, Bool.false_eq_true, if_false, if_pos (show c.length < 17592186044416 by omega), flagsOf_set p.length q h0 h1]
      have hx := perm_rd hp h0 h1
      exact impl_cyc_l1 hp out ho i hi r f (q ++ [x]) (c ++ [x]) (rd p x) (few_snoc hq h0 h1 hm) (by simp; omega) (by simp; omega) hx.1 hx.2 hr
theorem impl_cyc_l0 {p : List Int} (hp : isPerm p) : ∀ (d : Nat) (i : Int) (q : List Int) (out : List (List Int)), 0 ≤ i → i + d = p.length → Few p.length q → out.length + d ≤ 24 →
    Ev (fun k => impl_CyclesOf.l0 k p (flagsOf p.length q) out (p.length : Int) i) (cycGo p d i q out)
  | 0, i, q, out, h0, hi, hq, ho => by
    refine ev_up ?_
    simp only [impl_CyclesOf.l0, if_neg (show ¬ i < (p.length : Int) by omega)]
    exact Ev.now _
  | d + 1, i, q, out, h0, hi, hq, ho => by
    refine ev_up ?_
    have h1 : i < (p.length : Int) := by omega
    have hn := hp.1
    have hw64 : wrap64 (i + 1) = i + 1 := pw_wrap (by omega) (by omega)
    simp only [impl_CyclesOf.l0, if_pos h1, if_pos h0, flagsOf_len, flagsOf_rd p.length q h0 h1, hw64]
    have hql := few_len hq
    rw [cycGo]
    by_cases hm : i ∈ q
    · simp only [decide_eq_true hm, if_true]
      rw [walkOf_in hq hm, if_pos hm]
      exact impl_cyc_l0 hp d (i + 1) q out (by omega) (by omega) hq (by omega)
    · simp only [decide_eq_false hm, Bool.false_eq_true, if_false, if_neg hm]
      refine impl_cyc_l1 hp out (by omega) i ⟨h0, h1⟩ _ (p.length + 1 - q.length) q [] i hq (by simp) (by omega) h0 h1 ?_
      have e : walkC p (p.length + 1 - q.length) q [] i = walkOf p q i := rfl
      rw [e]
      have hw := walkOf_bd hp hq h0 h1
      exact impl_cyc_l0 hp d (i + 1) _ _ (by omega) (by omega) hw.1 (by simp; omega)
theorem impl_cycles (p : List Int) : Ev (fun k => impl_CyclesOf.f k p) (cyclesOf p) := by
  unfold impl_CyclesOf.f cyclesOf
  simp only [impl_PermOk.f, Option.bind_some]
  by_cases h : permB p = true
  · have hp := (permB_iff p).1 h
    have hn := hp.1
    simp only [if_pos h, if_pos (Int.natCast_nonneg p.length), Int.toNat_natCast, if_pos (show p.length ≤ 281474976710656 by omega), ← flagsOf_nil]
    exact impl_cyc_l0 hp p.length 0 [] [] (by omega) (by omega) ⟨by simp, by simp⟩ (by simp; omega)
  · simp only [if_neg h]
    exact Ev.now _

/-- A number in decimals. -/
def decB (u : Nat) : ByteArray := ⟨(Go.Lib.decDigits u).toArray⟩
def itoaB (n : Int) : ByteArray := ⟨(Go.Lib.itoa n).toArray⟩
theorem nDig_le : ∀ (d u : Nat), u < 10 ^ (d + 1) → Go.Lib.nDigits u ≤ d + 1
  | 0, u, h => by rw [Go.Lib.nDigits_small (by simpa using h)]; omega
  | d + 1, u, h => by
    by_cases hu : u < 10
    · rw [Go.Lib.nDigits_small hu]; omega
    · rw [Go.Lib.nDigits_big hu]
      have := nDig_le d (u / 10) (by rw [Nat.pow_succ] at h; omega)
      omega
theorem decB_size (u : Nat) : (decB u).size = Go.Lib.nDigits u := by
  show (Go.Lib.decDigits u).toArray.size = _
  rw [List.size_toArray, Go.Lib.decDigits_length]
theorem bytes_app (a b : List UInt8) : (⟨a.toArray⟩ : ByteArray) ++ ⟨b.toArray⟩ = ⟨(a ++ b).toArray⟩ := by
  apply ByteArray.ext
  rw [ByteArray.data_append]
  simp
theorem app_assocB (a b c : ByteArray) : a ++ b ++ c = a ++ (b ++ c) := by
  apply ByteArray.ext
  simp [ByteArray.data_append, Array.append_assoc]
theorem one_strB (n : Int) (u : Nat) (h : n = ((u : Nat) : Int)) : strOfNums [n] = ⟨[UInt8.ofNat u].toArray⟩ := by
  subst h
  simp [strOfNums]
theorem strOne_size (n : Int) : (strOfNums [n]).size = 1 := id rfl
theorem decB_small {u : Nat} (h : u < 10) : decB u = strOfNums [(48 + (u : Int))] := by
  rw [one_strB _ (48 + u) (by omega)]
  unfold decB
  rw [Go.Lib.decDigits, dif_pos h]
theorem decB_big {u : Nat} (h : ¬ u < 10) : decB u = decB (u / 10) ++ strOfNums [(48 + (u : Int) % 10)] := by
  rw [one_strB _ (48 + u % 10) (by omega)]
  unfold decB
  rw [bytes_app, Go.Lib.decDigits, dif_neg h]
theorem itoaB_pos {n : Int} (h : 0 ≤ n) : itoaB n = decB n.toNat := by
  unfold itoaB Go.Lib.itoa decB
  rw [if_neg (by omega)]
theorem itoaB_neg {n : Int} (h : n < 0) : itoaB n = (⟨#[45]⟩ : ByteArray) ++ decB n.natAbs := by
  unfold itoaB Go.Lib.itoa decB
  rw [if_pos h, show (⟨#[45]⟩ : ByteArray) = ⟨[45].toArray⟩ from rfl, bytes_app]
  rfl
theorem itoaB_size {n : Int} (h0 : -9223372036854775808 ≤ n) (h1 : n ≤ 9223372036854775807) : (itoaB n).size ≤ 20 := by
  by_cases h : 0 ≤ n
  · rw [itoaB_pos h, decB_size]
    have := nDig_le 18 n.toNat (by omega)
    omega
  · rw [itoaB_neg (by omega), ByteArray.size_append, decB_size]
    have := nDig_le 18 n.natAbs (by omega)
    show 1 + _ ≤ 20
    omega
theorem spec_fmt_l0 : ∀ (u : Nat) (x : Int) (acc : ByteArray), x = u → u < 10 ^ 19 → acc.size + Go.Lib.nDigits u ≤ 40 → Ev (fun k => spec_FormatInt.l0 k x acc) (decB u ++ acc) := by
  intro u
  induction u using Nat.strongRecOn with
  | _ u ih =>
    intro x acc hx hu hs
    subst hx
    refine ev_up ?_
    have h9 : (10 : Int) ^ 19 = 10000000000000000000 := by decide
    by_cases h : u < 10
    · have hw : (wrap64 (48 + (u : Int))) % 256 = 48 + (u : Int) := by rw [pw_wrap (by omega) (by omega)]; omega
      have hn := Go.Lib.nDigits_small h
      simp only [spec_FormatInt.l0, if_neg (show ¬ ((u : Int) > 9) by omega), hw, Option.bind_some, strOne_size, if_pos (show 1 + acc.size ≤ 9223372036854775807 by omega)]
      rw [decB_small h]
      exact Ev.now _
    · have ht : Int.tmod (u : Int) 10 = (u : Int) % 10 := Int.tmod_eq_emod_of_nonneg (by omega)
      have hq : Int.tdiv (u : Int) 10 = (u : Int) / 10 := Int.tdiv_eq_ediv_of_nonneg (by omega)
      have hw : (wrap64 (48 + (u : Int) % 10)) % 256 = 48 + (u : Int) % 10 := by rw [pw_wrap (by omega) (by omega)]; omega
      have hw2 : wrap64 ((u : Int) / 10) = ((u / 10 : Nat) : Int) := by rw [pw_wrap (by omega) (by omega)]; omega
      have hn := Go.Lib.nDigits_big h
      simp only [spec_FormatInt.l0, if_pos (show ((u : Int) > 9) by omega), ht, hq, hw, hw2, Option.bind_some, strOne_size, if_pos (show 1 + acc.size ≤ 9223372036854775807 by omega)]
      rw [decB_big h, app_assocB]
      exact ih (u / 10) (by omega) _ _ rfl (by omega) (by rw [ByteArray.size_append, strOne_size]; omega)
theorem spec_fmtint {n : Int} (h0 : -9223372036854775808 ≤ n) (h1 : n ≤ 9223372036854775807) : Ev (fun k => spec_FormatInt.f k n) (itoaB n) := by
  by_cases hn : 0 ≤ n
  · refine ev_up ?_
    simp only [spec_FormatInt.f, if_neg (show ¬ n < 0 by omega)]
    rw [itoaB_pos hn]
    have := spec_fmt_l0 n.toNat n ⟨#[]⟩ (by omega) (by omega) (by
      have := nDig_le 18 n.toNat (by omega)
      show 0 + _ ≤ 40
      omega)
    rw [show decB n.toNat ++ (⟨#[]⟩ : ByteArray) = decB n.toNat from by apply ByteArray.ext; simp [ByteArray.data_append]] at this
    exact this
  · have key : ∀ (u : Nat) (n : Int), n = -(u : Int) → 1 ≤ u → u ≤ 9223372036854775808 → Ev (fun k => spec_FormatInt.f k n) ((⟨#[45]⟩ : ByteArray) ++ decB u) := by
      intro u
      induction u using Nat.strongRecOn with
      | _ u ih =>
        intro n hx h1 h2
        subst hx
        refine ev_up ?_
        have hq : Int.tdiv (-(u : Int)) 10 = -((u / 10 : Nat) : Int) := by rw [Int.neg_tdiv, Int.tdiv_eq_ediv_of_nonneg (by omega)]; omega
        have ht : Int.tmod (-(u : Int)) 10 = -((u : Int) % 10) := by rw [Int.neg_tmod, Int.tmod_eq_emod_of_nonneg (by omega)]
        have hw2 : wrap64 (-((u / 10 : Nat) : Int)) = -((u / 10 : Nat) : Int) := pw_wrap (by omega) (by omega)
        by_cases h : u < 10
        · have hw : (wrap64 (48 - -(u : Int))) % 256 = 48 + (u : Int) := by rw [pw_wrap (by omega) (by omega)]; omega
          simp only [spec_FormatInt.f, if_pos (show -(u : Int) < 0 by omega), hq, hw2, hw, if_pos (show -((u / 10 : Nat) : Int) = 0 by omega), Option.bind_some, strOne_size, if_pos (show 1 + 1 ≤ 9223372036854775807 by omega)]
          rw [decB_small h]
          exact Ev.now _
        · have hw : (wrap64 (48 - -((u : Int) % 10))) % 256 = 48 + (u : Int) % 10 := by rw [pw_wrap (by omega) (by omega)]; omega
          simp only [spec_FormatInt.f, if_pos (show -(u : Int) < 0 by omega), hq, ht, hw2, hw, if_neg (show ¬ -((u / 10 : Nat) : Int) = 0 by omega)]
          refine Ev.bind (ih (u / 10) (by omega) _ rfl (by omega) (by omega)) ?_
          have hz : ((⟨#[45]⟩ : ByteArray) ++ decB (u / 10)).size ≤ 20 := by
            rw [ByteArray.size_append, decB_size]
            have := nDig_le 18 (u / 10) (by omega)
            show 1 + _ ≤ 20
            omega
          simp only [Option.bind_some, strOne_size, if_pos (show ((⟨#[45]⟩ : ByteArray) ++ decB (u / 10)).size + 1 ≤ 9223372036854775807 by omega)]
          rw [decB_big h, ← app_assocB]
          exact Ev.now _
    rw [itoaB_neg (by omega)]
    exact key n.natAbs n (by omega) (by omega) (by omega)
theorem impl_fmtint {n : Int} (h0 : -9223372036854775808 ≤ n) (h1 : n ≤ 9223372036854775807) : impl_FormatInt.f n = some (itoaB n) := by
  unfold impl_FormatInt.f strconv_Itoa.f
  rw [if_pos ⟨h0, h1⟩]
  rfl
theorem i64_wf {x : Int} (h : (Lit.int .i64 x).wf = true) : -9223372036854775808 ≤ x ∧ x ≤ 9223372036854775807 := pw_wf h

def joinOf (l : List ByteArray) (sep : ByteArray) : ByteArray := ⟨(joinB l sep).toArray⟩
def tot (l : List ByteArray) (sep : ByteArray) : Nat := match l with
  | [] => 0
  | x :: xs => x.size + sep.size + tot xs sep
theorem tot_append (sep : ByteArray) : ∀ (a b : List ByteArray), tot (a ++ b) sep = tot a sep + tot b sep
  | [], b => by simp [tot]
  | x :: a, b => by simp only [List.cons_append, tot, tot_append sep a b]; omega
theorem join_two (sep a : List UInt8) (xs : List (List UInt8)) (h : xs ≠ []) : Go.Lib.join (a :: xs) sep = a ++ sep ++ Go.Lib.join xs sep := by
  cases xs with
  | nil => exact absurd rfl h
  | cons b t => simp [Go.Lib.join, List.intercalate]
theorem join_snoc (sep x : List UInt8) : ∀ (xs : List (List UInt8)), xs ≠ [] → Go.Lib.join (xs ++ [x]) sep = Go.Lib.join xs sep ++ sep ++ x
  | [], h => absurd rfl h
  | [a], _ => by simp [Go.Lib.join, List.intercalate]
  | a :: b :: t, _ => by
    rw [List.cons_append, join_two sep a _ (by simp), join_snoc sep x (b :: t) (by simp), join_two sep a (b :: t) (by simp)]
    simp [List.append_assoc]
theorem bytes_self (x : ByteArray) : (⟨x.data.toList.toArray⟩ : ByteArray) = x := by
  apply ByteArray.ext
  simp
theorem joinOf_nil (sep : ByteArray) : joinOf [] sep = ⟨#[]⟩ := by simp [joinOf, joinB, Go.Lib.join, List.intercalate]
theorem joinOf_one (x sep : ByteArray) : joinOf [x] sep = x := by
  simp [joinOf, joinB, Go.Lib.join, List.intercalate]
theorem joinOf_snoc (l : List ByteArray) (x sep : ByteArray) (h : l ≠ []) : joinOf (l ++ [x]) sep = joinOf l sep ++ sep ++ x := by
  unfold joinOf joinB
  rw [List.map_append, List.map_cons, List.map_nil, join_snoc _ _ _ (by simpa using h), ← bytes_app, ← bytes_app, bytes_self, bytes_self]
theorem joinOf_size (sep : ByteArray) : ∀ (l : List ByteArray), (joinOf l sep).size ≤ tot l sep
  | [] => by rw [joinOf_nil]; exact Nat.zero_le _
  | [x] => by rw [joinOf_one]; simp only [tot]; omega
  | x :: y :: l => by
    have h : joinOf (x :: y :: l) sep = x ++ sep ++ joinOf (y :: l) sep := by
      unfold joinOf joinB
      rw [List.map_cons, join_two _ _ _ (by simp), ← bytes_app, ← bytes_app, bytes_self, bytes_self]
    rw [h, ByteArray.size_append, ByteArray.size_append]
    have := joinOf_size sep (y :: l)
    rw [tot]
    omega
theorem tot_len (sep : ByteArray) (h : 1 ≤ sep.size) : ∀ (l : List ByteArray), l.length ≤ tot l sep
  | [] => by simp [tot]
  | x :: l => by
    have := tot_len sep h l
    simp only [List.length_cons, tot]
    omega
theorem rdOf_mid (d : ByteArray) (pre suf : List ByteArray) (x : ByteArray) : rdOf d (pre ++ x :: suf) (pre.length : Int) = x := by
  simp [rdOf, List.getD]
theorem spec_join_l0 (sep : ByteArray) (l : List ByteArray) (hl : l.length ≤ 1000000000000) (ht : tot l sep ≤ 1000000000000) : ∀ (suf pre : List ByteArray), l = pre ++ suf → Ev (fun k => spec_Join.l0 k sep (joinOf pre sep) l (l.length : Int) (pre.length : Int)) (joinOf l sep)
  | [], pre, e => by
    refine ev_up ?_
    have e2 : l = pre := by simpa using e
    subst e2
    simp only [spec_Join.l0, if_neg (show ¬ ((l.length : Int) < l.length) by omega)]
    exact Ev.now _
  | x :: suf, pre, e => by
    refine ev_up ?_
    have hlen : l.length = pre.length + suf.length + 1 := by rw [e]; simp; omega
    have htt : tot l sep = tot pre sep + (x.size + sep.size + tot suf sep) := by rw [e, tot_append]; simp only [tot]
    have hs := joinOf_size sep pre
    have hx : rdOf ByteArray.empty l (pre.length : Int) = x := by rw [e]; exact rdOf_mid _ _ _ _
    have hw : wrap64 ((pre.length : Int) + 1) = ((pre ++ [x]).length : Int) := by rw [pw_wrap (by omega) (by omega)]; simp
    have ih := spec_join_l0 sep l hl ht suf (pre ++ [x]) (by simp [e])
    simp only [spec_Join.l0, if_pos (show ((pre.length : Int) < l.length) by omega), if_pos (show (0 ≤ (pre.length : Int)) by omega), hx, hw]
    by_cases hp : pre = []
    · subst hp
      rw [List.nil_append, joinOf_one] at ih
      have hz : (joinOf [] sep).size = 0 := by rw [joinOf_nil]; rfl
      refine Ev.congr (f := fun k => _) (fun k => (if_neg (show ¬ (((([] : List ByteArray).length : Nat) : Int) > 0) by simp)).trans (if_pos (by omega))) ?_
      rw [joinOf_nil, show (⟨#[]⟩ : ByteArray) ++ x = x from by apply ByteArray.ext; simp [ByteArray.data_append]]
      exact ih
    · have hpl : 0 < pre.length := List.length_pos_iff.2 hp
      rw [joinOf_snoc _ _ _ hp] at ih
      refine Ev.congr (f := fun k => _) (fun k => ((if_pos (show (pre.length : Int) > 0 by omega)).trans (if_pos (by omega))).trans (if_pos (by rw [ByteArray.size_append]; omega))) ?_
      exact ih
theorem spec_join (sep : ByteArray) (l : List ByteArray) (hl : l.length ≤ 1000000000000) (ht : tot l sep ≤ 1000000000000) : Ev (fun k => spec_Join.f k l sep) (joinOf l sep) := by
  unfold spec_Join.f
  have := spec_join_l0 sep l hl ht l [] rfl
  rw [joinOf_nil] at this
  exact this
theorem impl_join (sep : ByteArray) (l : List ByteArray) (hl : l.length ≤ 1000000000000) (ht : tot l sep ≤ 1000000000000) : impl_Join.f l sep = some (joinOf l sep) := by
  unfold impl_Join.f strings_Join.f
  have hs : (joinB l sep).length ≤ tot l sep := by
    have := joinOf_size sep l
    exact this
  rw [if_pos ⟨by omega, by omega⟩]
  rfl

def Ints64 (l : List Int) : Prop := ∀ x ∈ l, -9223372036854775808 ≤ x ∧ x ≤ 9223372036854775807
theorem tot_ints (sep : ByteArray) (hs : sep.size = 1) : ∀ (l : List Int), Ints64 l → tot (l.map itoaB) sep ≤ 21 * l.length
  | [], _ => by simp [tot]
  | x :: l, h => by
    have h1 := tot_ints sep hs l (fun y hy => h y (List.mem_cons_of_mem _ hy))
    have h2 := h x List.mem_cons_self
    have h3 := itoaB_size h2.1 h2.2
    simp only [List.map_cons, tot, List.length_cons]
    omega
theorem spec_ints_l0 (sep : ByteArray) (hs : sep.size = 1) (l : List Int) (hl : l.length ≤ 1048576) (h : Ints64 l) : ∀ (suf pre : List Int), l = pre ++ suf → Ev (fun k => spec_l17Ints.l0 k sep (pre.map itoaB) l (l.length : Int) (pre.length : Int)) (joinOf (l.map itoaB) sep)
  | [], pre, e => by
    refine ev_up ?_
    have e2 : l = pre := by simpa using e
    subst e2
    simp only [spec_l17Ints.l0, if_neg (show ¬ ((l.length : Int) < l.length) by omega)]
    have := tot_ints sep hs l h
    refine Ev.bind (spec_join sep (l.map itoaB) (by rw [List.length_map]; omega) (by omega)) ?_
    exact Ev.now _
  | x :: suf, pre, e => by
    refine ev_up ?_
    have hlen : l.length = pre.length + suf.length + 1 := by rw [e]; simp; omega
    have hx : rd l (pre.length : Int) = x := by rw [e]; exact rd_mid _ _ _
    have hxm := h x (by rw [e]; simp)
    have hw : wrap64 ((pre.length : Int) + 1) = ((pre ++ [x]).length : Int) := by rw [pw_wrap (by omega) (by omega)]; simp
    have ih := spec_ints_l0 sep hs l hl h suf (pre ++ [x]) (by simp [e])
    simp only [spec_l17Ints.l0, if_pos (show ((pre.length : Int) < l.length) by omega), if_pos (show (0 ≤ (pre.length : Int)) by omega), hx, hw]
    refine Ev.bind (spec_fmtint hxm.1 hxm.2) ?_
    refine Ev.congr (f := fun k => _) (fun k => if_pos (by rw [List.length_map]; omega)) ?_
    rw [List.map_append] at ih
    exact ih
theorem spec_ints (sep : ByteArray) (hs : sep.size = 1) (l : List Int) (hl : l.length ≤ 1048576) (h : Ints64 l) : Ev (fun k => spec_l17Ints.f k l sep) (joinOf (l.map itoaB) sep) := by
  unfold spec_l17Ints.f
  exact spec_ints_l0 sep hs l hl h l [] rfl
theorem impl_ints_l0 (sep : ByteArray) (hs : sep.size = 1) (l : List Int) (hl : l.length ≤ 1048576) (h : Ints64 l) : ∀ (suf pre : List Int), l = pre ++ suf → Ev (fun k => impl_joinInts.l0 k sep (pre.map itoaB) l (l.length : Int) (pre.length : Int)) (joinOf (l.map itoaB) sep)
  | [], pre, e => by
    refine ev_up ?_
    have e2 : l = pre := by simpa using e
    subst e2
    have := tot_ints sep hs l h
    simp only [impl_joinInts.l0, if_neg (show ¬ ((l.length : Int) < l.length) by omega), impl_join sep (l.map itoaB) (by rw [List.length_map]; omega) (by omega), Option.bind_some]
    exact Ev.now _
  | x :: suf, pre, e => by
    refine ev_up ?_
    have hlen : l.length = pre.length + suf.length + 1 := by rw [e]; simp; omega
    have hx : rd l (pre.length : Int) = x := by rw [e]; exact rd_mid _ _ _
    have hxm := h x (by rw [e]; simp)
    have hw : wrap64 ((pre.length : Int) + 1) = ((pre ++ [x]).length : Int) := by rw [pw_wrap (by omega) (by omega)]; simp
    have ih := impl_ints_l0 sep hs l hl h suf (pre ++ [x]) (by simp [e])
    simp only [impl_joinInts.l0, if_pos (show ((pre.length : Int) < l.length) by omega), if_pos (show (0 ≤ (pre.length : Int)) by omega), hx, hw, impl_fmtint hxm.1 hxm.2, Option.bind_some]
    refine Ev.congr (f := fun k => _) (fun k => if_pos (by rw [List.length_map]; omega)) ?_
    rw [List.map_append] at ih
    exact ih
theorem impl_ints (sep : ByteArray) (hs : sep.size = 1) (l : List Int) (hl : l.length ≤ 1048576) (h : Ints64 l) : Ev (fun k => impl_joinInts.f k l sep) (joinOf (l.map itoaB) sep) := by
  unfold impl_joinInts.f
  exact impl_ints_l0 sep hs l hl h l [] rfl
theorem ints64_wf {l : List Int} (h : ∀ x ∈ l, (Lit.int .i64 x).wf = true) : Ints64 l := fun x hx => i64_wf (h x hx)

def cycT (c : List Int) : ByteArray := (⟨#[40]⟩ : ByteArray) ++ joinOf (c.map itoaB) ⟨#[32]⟩ ++ (⟨#[41]⟩ : ByteArray)
def cycsT : List (List Int) → ByteArray → ByteArray
  | [], acc => acc
  | c :: cs, acc => cycsT cs (if c.length > 1 then acc ++ cycT c else acc)
def endT (t : ByteArray) : ByteArray := if t.toList = ([] : List UInt8) then ⟨#[40, 41]⟩ else t
theorem good_ints {c : List Int} (h : GoodC c) : Ints64 c := fun x hx => by have := h.1 x hx; omega
theorem cyc_sz {c : List Int} (h : GoodC c) : (joinOf (c.map itoaB) ⟨#[32]⟩).size ≤ 504 := by
  have := joinOf_size ⟨#[32]⟩ (c.map itoaB)
  have := tot_ints ⟨#[32]⟩ rfl c (good_ints h)
  have := h.2
  omega
theorem one_sz (b : UInt8) : (⟨#[b]⟩ : ByteArray).size = 1 := id rfl
theorem rdL_mid' (pre suf : List (List Int)) (x : List Int) : rd_L6 (pre ++ x :: suf) (pre.length : Int) = x := by simp [rd_L6, List.getD]
theorem spec_fmtperm_l0 (l : List (List Int)) (hl : l.length ≤ 24) (h : ∀ c ∈ l, GoodC c) : ∀ (suf pre : List (List Int)) (acc : ByteArray), l = pre ++ suf → acc.size ≤ 600 * pre.length → Ev (fun k => spec_FormatPerm.l0 k acc l (l.length : Int) (pre.length : Int)) (endT (cycsT suf acc))
  | [], pre, acc, e, ha => by
    refine ev_up ?_
    have e2 : l = pre := by simpa using e
    subst e2
    simp only [spec_FormatPerm.l0, if_neg (show ¬ ((l.length : Int) < l.length) by omega), cycsT]
    by_cases hz : acc.toList = ([] : List UInt8)
    · simp only [if_pos hz]
      rw [show endT acc = _ from if_pos hz]
      exact Ev.now _
    · simp only [if_neg hz]
      rw [show endT acc = _ from if_neg hz]
      exact Ev.now _
  | x :: suf, pre, acc, e, ha => by
    refine ev_up ?_
    have hlen : l.length = pre.length + suf.length + 1 := by rw [e]; simp; omega
    have hx : rd_L6 l (pre.length : Int) = x := by rw [e]; exact rdL_mid' _ _ _
    have hg := h x (by rw [e]; simp)
    have hs := cyc_sz hg
    have hw : wrap64 ((pre.length : Int) + 1) = ((pre ++ [x]).length : Int) := by rw [pw_wrap (by omega) (by omega)]; simp
    simp only [spec_FormatPerm.l0, if_pos (show ((pre.length : Int) < l.length) by omega), if_pos (show (0 ≤ (pre.length : Int)) by omega), hx, hw, cycsT]
    by_cases h1 : x.length > 1
    · simp only [if_pos (show (x.length : Int) > 1 by omega), if_pos h1, if_pos (show acc.size + 1 ≤ 9223372036854775807 by omega)]
      have ih := spec_fmtperm_l0 l hl h suf (pre ++ [x]) (acc ++ cycT x) (by simp [e]) (by
        unfold cycT
        simp only [ByteArray.size_append, one_sz, List.length_append, List.length_cons, List.length_nil]
        omega)
      refine Ev.bind (spec_ints _ rfl x (by have := hg.2; omega) (good_ints hg)) ?_
      refine Ev.congr (f := fun k => _) (fun k => (if_pos (by simp only [ByteArray.size_append, one_sz]; omega)).trans (if_pos (by simp only [ByteArray.size_append, one_sz]; omega))) ?_
      have e3 : acc ++ (⟨#[40]⟩ : ByteArray) ++ joinOf (x.map itoaB) ⟨#[32]⟩ ++ (⟨#[41]⟩ : ByteArray) = acc ++ cycT x := by
        unfold cycT
        simp only [app_assocB]
      rw [e3]
      exact ih
    · simp only [if_neg (show ¬ (x.length : Int) > 1 by omega), if_neg h1]
      exact spec_fmtperm_l0 l hl h suf (pre ++ [x]) acc (by simp [e]) (by simp only [List.length_append, List.length_cons, List.length_nil]; omega)
theorem impl_fmtperm_l0 (l : List (List Int)) (hl : l.length ≤ 24) (h : ∀ c ∈ l, GoodC c) : ∀ (suf pre : List (List Int)) (acc : ByteArray), l = pre ++ suf → acc.size ≤ 600 * pre.length → Ev (fun k => impl_FormatPerm.l0 k acc l (l.length : Int) (pre.length : Int)) (endT (cycsT suf acc))
  | [], pre, acc, e, ha => by
    refine ev_up ?_
    have e2 : l = pre := by simpa using e
    subst e2
    simp only [impl_FormatPerm.l0, if_neg (show ¬ ((l.length : Int) < l.length) by omega), cycsT]
    by_cases hz : acc.toList = ([] : List UInt8)
    · simp only [if_pos hz]
      rw [show endT acc = _ from if_pos hz]
      exact Ev.now _
    · simp only [if_neg hz]
      rw [show endT acc = _ from if_neg hz]
      exact Ev.now _
  | x :: suf, pre, acc, e, ha => by
    refine ev_up ?_
    have hlen : l.length = pre.length + suf.length + 1 := by rw [e]; simp; omega
    have hx : rd_L6 l (pre.length : Int) = x := by rw [e]; exact rdL_mid' _ _ _
    have hg := h x (by rw [e]; simp)
    have hs := cyc_sz hg
    have hw : wrap64 ((pre.length : Int) + 1) = ((pre ++ [x]).length : Int) := by rw [pw_wrap (by omega) (by omega)]; simp
    simp only [impl_FormatPerm.l0, if_pos (show ((pre.length : Int) < l.length) by omega), if_pos (show (0 ≤ (pre.length : Int)) by omega), hx, hw, cycsT]
    by_cases h1 : x.length > 1
    · simp only [if_pos (show (x.length : Int) > 1 by omega), if_pos h1]
      have ih := impl_fmtperm_l0 l hl h suf (pre ++ [x]) (acc ++ cycT x) (by simp [e]) (by
        unfold cycT
        simp only [ByteArray.size_append, one_sz, List.length_append, List.length_cons, List.length_nil]
        omega)
      refine Ev.bind (impl_ints _ rfl x (by have := hg.2; omega) (good_ints hg)) ?_
      refine Ev.congr (f := fun k => _) (fun k => ((if_pos (by omega)).trans (if_pos (by simp only [ByteArray.size_append, one_sz]; omega))).trans (if_pos (by simp only [ByteArray.size_append, one_sz]; omega))) ?_
      exact ih
    · simp only [if_neg (show ¬ (x.length : Int) > 1 by omega), if_neg h1]
      exact impl_fmtperm_l0 l hl h suf (pre ++ [x]) acc (by simp [e]) (by simp only [List.length_append, List.length_cons, List.length_nil]; omega)
def permT (p : List Int) : ByteArray := if permB p = true then endT (cycsT (cyclesOf p) ⟨#[]⟩) else ⟨#[]⟩
theorem spec_fmtperm (p : List Int) : Ev (fun k => spec_FormatPerm.f k p) (permT p) := by
  unfold spec_FormatPerm.f permT
  simp only [spec_PermOk.f, ← perm_same, Option.bind_some]
  by_cases h : permB p = true
  · simp only [if_pos h]
    refine Ev.bind (spec_cycles p) ?_
    have hb := cyclesOf_bd p
    exact spec_fmtperm_l0 _ hb.2 hb.1 _ [] ⟨#[]⟩ rfl (Nat.zero_le _)
  · simp only [if_neg h]
    exact Ev.now _
theorem impl_fmtperm (p : List Int) : Ev (fun k => impl_FormatPerm.f k p) (permT p) := by
  unfold impl_FormatPerm.f permT
  simp only [impl_PermOk.f, Option.bind_some]
  by_cases h : permB p = true
  · simp only [if_pos h]
    refine Ev.bind (impl_cycles p) ?_
    have hb := cyclesOf_bd p
    exact impl_fmtperm_l0 _ hb.2 hb.1 _ [] ⟨#[]⟩ rfl (Nat.zero_le _)
  · simp only [if_neg h]
    exact Ev.now _

theorem eqIntS_l0 (l : List Int) (hl : l.length ≤ 2147483648) : ∀ (suf pre : List Int), l = pre ++ suf → Ev (fun k => laws_eqIntS.l0 k l l (pre.length : Int)) true := by
  intro suf
  induction suf with
  | nil =>
    intro pre h
    subst h
    refine ev_up ?_
    simp only [laws_eqIntS.l0, if_neg (nlt_end pre)]
    exact Ev.now _
  | cons c suf ih =>
    intro pre h
    have := ih (pre ++ [c]) (by simp [h])
    subst h
    refine ev_up ?_
    simp only [laws_eqIntS.l0, if_pos (lt_mid pre suf c), if_pos (Int.natCast_nonneg pre.length), if_true, wrap_snoc (x := c) (s := suf) (p := pre) (by simp at hl ⊢; omega)]
    exact this
theorem eqIntS_ev (l : List Int) (hl : l.length ≤ 2147483648) : Ev (fun k => laws_eqIntS.f k l l) true := by
  unfold laws_eqIntS.f
  simp only [if_true]
  exact eqIntS_l0 l hl l [] rfl

theorem toIntS_l0 (l : List Int) (hl : l.length ≤ 1048576) : ∀ (suf pre : List Int), l = pre ++ suf → Ev (fun k => laws_toIntS.l0 k l (pre ++ List.replicate suf.length 0) (pre.length : Int)) l := by
  intro suf
  induction suf with
  | nil =>
    intro pre h
    subst h
    refine ev_up ?_
    simp only [laws_toIntS.l0, if_neg (nlt_end pre)]
    simpa using Ev.now pre
  | cons c suf ih =>
    intro pre h
    have := ih (pre ++ [c]) (by simp [h])
    subst h
    refine ev_up ?_
    simp only [laws_toIntS.l0, if_pos (lt_mid pre suf c), if_pos (Int.natCast_nonneg pre.length), rd_mid, if_pos (show ((pre.length : Nat) : Int) < ((pre ++ List.replicate (c :: suf).length (0 : Int)).length : Int) by simp; omega), wrap_snoc (x := c) (s := suf) (p := pre) (by simp at hl ⊢; omega)]
    rw [show (pre ++ List.replicate (c :: suf).length (0 : Int)).set ((pre.length : Nat) : Int).toNat c = pre ++ [c] ++ List.replicate suf.length 0 by simp [List.replicate_succ]]
    exact this
theorem toIntS_ev (l : List Int) (hl : l.length ≤ 1048576) : Ev (fun k => laws_toIntS.f k l) l := by
  have := toIntS_l0 l hl l [] rfl
  unfold laws_toIntS.f
  simp only [if_pos (Int.natCast_nonneg l.length), if_pos (show ((l.length : Nat) : Int).toNat ≤ 35184372088832 by omega)]
  simpa using this

theorem FnExactFormatPerm : laws_FnExactFormatPerm.Pure := by
  intro l hl hw
  apply Ev.rounds
  unfold laws_FnExactFormatPerm.f
  by_cases h : (l.length : Int) > 1048576
  · simp only [if_pos h]
    exact Ev.now _
  · simp only [if_neg h]
    have h2 : l.length ≤ 1048576 := by omega
    refine Ev.bind (toIntS_ev l h2) ?_
    refine Ev.bind (spec_fmtperm l) ?_
    refine Ev.bind (toIntS_ev l h2) ?_
    refine Ev.bind (impl_fmtperm l) ?_
    simp only [if_true]
    refine Ev.bind (toIntS_ev l h2) ?_
    refine Ev.bind (eqIntS_ev l (by omega)) ?_
    simp only [if_true]
    exact Ev.now _

end Go.Proofs.YtnoopmbhdlfkbaaDoor.Pure
