/- The program's reports say what its functions return, on every surface that the law draws. -/
import Derived.Test.YthhdgeafdnikcaaGreatDoorSayFnReports
namespace Go.Proofs.YthhdgeafdnikcaaGreatDoor.Pure
open Go.RowKit Go.Proofs.YthhdgeafdnikcaaGreatDoor.S Go.Proofs.YthhdgeafdnikcaaGreatDoorW.PrintWords Go.Proofs.YthhdgeafdnikcaaGreatDoorW.PrintLast
set_option linter.unusedVariables false
set_option linter.unusedSimpArgs false

theorem loop_eq (b : ByteArray) : ∀ (d i : Nat) (r : List UInt8), b.size - i = d → ByteArray.toList.loop b i r = r.reverse ++ b.data.toList.drop i
  | 0, i, r, h => by
    rw [ByteArray.toList.loop, if_neg (by omega), List.drop_eq_nil_of_le (by have e : b.data.toList.length = b.size := rfl; omega)]
    simp
  | d + 1, i, r, h => by
    have hi : i < b.data.toList.length := by have e : b.data.toList.length = b.size := rfl; omega
    rw [ByteArray.toList.loop, if_pos (by omega), loop_eq b d (i + 1) _ (by omega), List.drop_eq_getElem_cons hi]
    have e : b.get! i = b.data.toList[i] := by
      have h2 : i < b.data.size := by simpa using hi
      show b.data[i]! = _
      rw [getElem!_pos b.data i h2]
      simp
    rw [e]
    simp
theorem toList_eq (b : ByteArray) : b.toList = b.data.toList := by
  unfold ByteArray.toList
  rw [loop_eq b b.size 0 [] (by omega)]
  simp
theorem ev_up {α : Type} {g : Nat → Option α} {r : α} (h : Ev (fun k => g (k + 1)) r) : Ev g r := Ev.step (fun _ => rfl) h
theorem pw_wrap {a : Int} (h0 : -9223372036854775808 ≤ a) (h1 : a ≤ 9223372036854775807) : wrap64 a = a := by
  unfold wrap64
  omega

/-- A permutation of at most 24 elements. -/
def isPerm (p : List Int) : Prop := p.length ≤ 24 ∧ (∀ x ∈ p, 0 ≤ x ∧ x < (p.length : Int)) ∧ p.Nodup
theorem perm_go (n : Nat) (hn : n ≤ 24) : ∀ (p pre : List Int) (seen : List Bool), seen.length = 24 → (∀ x : Int, 0 ≤ x → x < n → (seen.getD x.toNat false = true ↔ x ∈ pre)) →
    permGo n p seen = permSGo n pre p := by
  intro p
  induction p with
  | nil => intro pre seen _ _; rfl
  | cons x p ih =>
    intro pre seen hl hs
    simp only [permGo, permSGo]
    by_cases h0 : x < 0
    · rw [if_pos h0, if_neg (by omega)]
    · rw [if_neg h0]
      by_cases h1 : (n : Int) ≤ x
      · rw [if_pos h1, if_neg (by omega)]
      · rw [if_neg h1, if_pos (show 0 ≤ x ∧ x ≤ (n : Int) - 1 by omega)]
        have hx := hs x (by omega) (by omega)
        by_cases h2 : x ∈ pre
        · rw [if_pos (hx.2 h2), if_pos h2]
        · rw [if_neg (fun h => h2 (hx.1 h)), if_neg h2]
          refine ih _ _ (by simpa using hl) (fun y hy0 hy1 => ?_)
          by_cases hxy : x = y
          · subst hxy
            have : x.toNat < seen.length := by omega
            simp [List.getD, this]
          · have hne : x.toNat ≠ y.toNat := by omega
            have := hs y hy0 hy1
            simp only [List.getD, List.getElem?_set_ne hne]
            rw [List.getD] at this
            rw [this]
            simp [Ne.symm hxy]
theorem perm_same (p : List Int) : permB p = permSB p := by
  unfold permB permSB
  by_cases h : p.length ≤ 24
  · rw [if_pos h, if_pos h]
    refine perm_go p.length h p [] no24 rfl (fun x h0 h1 => ?_)
    have : no24.getD x.toNat false = false := by
      unfold no24
      simp only [List.getD, List.getElem?_replicate]
      split <;> rfl
    rw [this]
    simp
  · rw [if_neg h, if_neg h]
theorem permS_iff (n : Nat) : ∀ (p pre : List Int), permSGo n pre p = true ↔ ((∀ x ∈ p, 0 ≤ x ∧ x < (n : Int)) ∧ (∀ x ∈ p, x ∉ pre) ∧ p.Nodup)
  | [], pre => by simp [permSGo]
  | x :: p, pre => by
    simp only [permSGo]
    by_cases h : 0 ≤ x ∧ x ≤ (n : Int) - 1
    · rw [if_pos h]
      by_cases h2 : x ∈ pre
      · rw [if_pos h2]
        simp [h2]
      · rw [if_neg h2, permS_iff n p (pre ++ [x])]
        simp only [List.mem_cons, forall_eq_or_imp, List.nodup_cons]
        constructor
        · rintro ⟨h3, h4, h5⟩
          exact ⟨⟨by omega, h3⟩, ⟨h2, fun y hy hp => h4 y hy (List.mem_append.2 (.inl hp))⟩, fun hx => h4 x hx (List.mem_append.2 (.inr (List.mem_singleton.2 rfl))), h5⟩
        · rintro ⟨h3, h4, h5, h6⟩
          refine ⟨h3.2, fun y hy hp => ?_, h6⟩
          rcases List.mem_append.1 hp with hp | hp
          · exact h4.2 y hy hp
          · rw [List.mem_singleton.1 hp] at hy
            exact h5 hy
    · rw [if_neg h]
      simp only [Bool.false_eq_true, List.mem_cons, forall_eq_or_imp, false_iff]
      intro h2
      omega
theorem permB_iff (p : List Int) : permB p = true ↔ isPerm p := by
  rw [perm_same]
  unfold permSB isPerm
  by_cases h : p.length ≤ 24
  · rw [if_pos h, permS_iff]
    simp [h]
  · rw [if_neg h]
    simp [h]

/-! Lists without a number twice; what is met from a place. -/
theorem nodup_len (n : Nat) : ∀ l : List Int, l.Nodup → (∀ x ∈ l, 0 ≤ x ∧ x < n) → l.length ≤ n := by
  induction n with
  | zero =>
    intro l _ h
    cases l with
    | nil => simp
    | cons x l => have := h x (by simp); omega
  | succ n ih =>
    intro l hn h
    have h2 := ih (l.filter (fun x => x != (n : Int))) (hn.filter _) (fun x hx => by
      have h3 := List.mem_filter.1 hx
      have h4 := h x h3.1
      have h5 : x ≠ (n : Int) := by simpa using h3.2
      omega)
    have h3 : l.length ≤ (l.filter (fun x => x != (n : Int))).length + 1 := by
      clear h h2 ih
      induction l with
      | nil => simp
      | cons y l ihl =>
        have hn2 := List.nodup_cons.1 hn
        by_cases hy : y = (n : Int)
        · have : l.filter (fun x => x != (n : Int)) = l := List.filter_eq_self.2 (fun x hx => by
            have : x ≠ (n : Int) := fun e => hn2.1 (by rw [hy, ← e]; exact hx)
            simpa using this)
          simp [hy, this]
        · have := ihl hn2.2
          simp [hy]
          omega
    omega
def push (q : List Int) (k : Int) : List Int := if 0 ≤ k ∧ k ∉ q then q ++ [k] else q
def pushAll (q : List Int) (ks : List Int) : List Int := ks.foldl push q
/-- Distinct numbers below n. -/
def Few (n : Nat) (q : List Int) : Prop := q.Nodup ∧ ∀ x ∈ q, 0 ≤ x ∧ x < (n : Int)
theorem few_push {n : Nat} {q : List Int} {k : Int} (h : Few n q) (hk : k < n) : Few n (push q k) := by
  unfold push
  split
  · rename_i h2
    refine ⟨?_, fun x hx => ?_⟩
    · rw [List.nodup_append]
      refine ⟨h.1, by simp, ?_⟩
      intro a ha b hb
      simp at hb
      subst hb
      exact fun e => h2.2 (e ▸ ha)
    · rcases List.mem_append.1 hx with hx | hx
      · exact h.2 x hx
      · simp at hx; subst hx; exact ⟨h2.1, hk⟩
  · exact h
theorem push_len (q : List Int) (k : Int) : q.length ≤ (push q k).length := by unfold push; split <;> simp
theorem few_pushAll {n : Nat} : ∀ (ks q : List Int), Few n q → (∀ k ∈ ks, k < n) → Few n (pushAll q ks) ∧ q.length ≤ (pushAll q ks).length
  | [], q, h, _ => ⟨h, Nat.le_refl _⟩
  | k :: ks, q, h, hk => by
    have h1 := few_push h (hk k (by simp))
    have h2 := few_pushAll ks (push q k) h1 (fun x hx => hk x (by simp [hx]))
    exact ⟨h2.1, Nat.le_trans (push_len q k) h2.2⟩
theorem few_len {n : Nat} {q : List Int} (h : Few n q) : q.length ≤ n := nodup_len n q h.1 h.2
/-- The queue behind the places from 'at_' on. -/
def bfs (nb : Int → List Int) : Nat → List Int → Nat → List Int
  | 0, q, _ => q
  | f + 1, q, i => if h : i < q.length then bfs nb f (pushAll q (nb q[i])) (i + 1) else q
theorem bfs_done (nb : Int → List Int) (f : Nat) (q : List Int) (i : Nat) (h : ¬ i < q.length) : bfs nb f q i = q := by
  cases f with
  | zero => rfl
  | succ f => rw [bfs, dif_neg h]
theorem bfs_few {n : Nat} (nb : Int → List Int) (hnb : ∀ x : Int, 0 ≤ x → x < (n : Int) → ∀ k ∈ nb x, k < (n : Int)) : ∀ (f : Nat) (q : List Int) (i : Nat), Few n q → Few n (bfs nb f q i)
  | 0, q, i, h => h
  | f + 1, q, i, h => by
    rw [bfs]
    split
    · rename_i hi
      have := h.2 _ (List.getElem_mem hi)
      exact bfs_few nb hnb f _ _ (few_pushAll (nb q[i]) q h (hnb q[i] this.1 this.2)).1
    · exact h

/-! Small words on lists, read at a place. -/
theorem wrap_snoc {α : Type} {p s : List α} {x : α} (h : (p ++ x :: s).length ≤ 4611686018427387904) : wrap64 ((p.length : Int) + 1) = ((p ++ [x]).length : Int) := by
  simp at h ⊢
  unfold wrap64
  omega
theorem lt_mid {α : Type} (p s : List α) (x : α) : ((p.length : Nat) : Int) < ((p ++ x :: s).length : Int) := by simp; omega
theorem nlt_end {α : Type} (p : List α) : ¬ ((p.length : Nat) : Int) < ((p ++ []).length : Int) := by simp
theorem rd_mid (p s : List Int) (x : Int) : rd (p ++ x :: s) (p.length : Int) = x := by simp [rd, List.getD]
theorem rd_get (q : List Int) (i : Nat) (h : i < q.length) : rd q (i : Int) = q[i] := by simp [rd, List.getD, h]

/-- Which of the numbers below n are on the list. -/
def flagsOf (n : Nat) (q : List Int) : List Bool := (List.range n).map (fun (i : Nat) => decide ((i : Int) ∈ q))
theorem flagsOf_len (n : Nat) (q : List Int) : (flagsOf n q).length = n := by simp [flagsOf]
theorem flagsOf_nil (n : Nat) : flagsOf n [] = List.replicate n false := by
  apply List.ext_getElem?
  intro i
  by_cases h : i < n <;> simp [flagsOf, List.getElem?_replicate, h]
theorem flagsOf_rd (n : Nat) (q : List Int) {x : Int} (h0 : 0 ≤ x) (h1 : x < n) : rdOf false (flagsOf n q) x = decide (x ∈ q) := by
  have e : ((x.toNat : Nat) : Int) = x := by omega
  simp [rdOf, flagsOf, List.getD, show x.toNat < n by omega, e]
theorem flagsOf_set (n : Nat) (q : List Int) {x : Int} (h0 : 0 ≤ x) (h1 : x < n) : (flagsOf n q).set x.toNat true = flagsOf n (q ++ [x]) := by
  apply List.ext_getElem?
  intro i
  have hl : x.toNat < (flagsOf n q).length := by rw [flagsOf_len]; omega
  by_cases h : i = x.toNat
  · subst h
    have e : ((x.toNat : Nat) : Int) = x := by omega
    simp [flagsOf, show x.toNat < n by omega, e]
  · have hne : ((i : Nat) : Int) ≠ x := by omega
    rw [List.getElem?_set_ne (by omega)]
    by_cases hi : i < n <;> simp [flagsOf, hi, hne]
theorem perm_rd {p : List Int} (h : isPerm p) {x : Int} (h0 : 0 ≤ x) (h1 : x < p.length) : 0 ≤ rd p x ∧ rd p x < (p.length : Int) := by
  have e : rd p x = p[x.toNat]'(by omega) := by simp [rd, List.getD, show x.toNat < p.length by omega]
  rw [e]
  exact h.2.1 _ (List.getElem_mem _)

/-- One cycle, from x on: the numbers met by then, the cycle. -/
def walkC (p : List Int) : Nat → List Int → List Int → Int → List Int × List Int
  | 0, q, c, _ => (q, c)
  | f + 1, q, c, x => if x ∈ q then (q, c) else walkC p f (q ++ [x]) (c ++ [x]) (rd p x)
def walkOf (p q : List Int) (i : Int) : List Int × List Int := walkC p (p.length + 1 - q.length) q [] i
def cycGo (p : List Int) : Nat → Int → List Int → List (List Int) → List (List Int)
  | 0, _, _, out => out
  | d + 1, i, q, out => cycGo p d (i + 1) (walkOf p q i).1 (if i ∈ q then out else out ++ [(walkOf p q i).2])
def cyclesOf (p : List Int) : List (List Int) := if permB p = true then cycGo p p.length 0 [] [] else []
theorem few_full {n : Nat} {q : List Int} (h : Few n q) (hl : q.length = n) {x : Int} (h0 : 0 ≤ x) (h1 : x < n) : x ∈ q := by
  refine Classical.byContradiction fun hm => ?_
  have hf := few_push h h1
  have := few_len hf
  unfold push at this
  rw [if_pos ⟨h0, hm⟩] at this
  simp at this
  omega
theorem few_snoc {n : Nat} {q : List Int} (h : Few n q) {x : Int} (h0 : 0 ≤ x) (h1 : x < n) (hm : x ∉ q) : Few n (q ++ [x]) := by
  have hf := few_push h h1
  unfold push at hf
  rw [if_pos ⟨h0, hm⟩] at hf
  exact hf
theorem walkC_bd {p : List Int} (hp : isPerm p) : ∀ (f : Nat) (q c : List Int) (x : Int), Few p.length q → c.length ≤ q.length → (∀ y ∈ c, 0 ≤ y ∧ y < (p.length : Int)) → 0 ≤ x → x < p.length →
    Few p.length (walkC p f q c x).1 ∧ (walkC p f q c x).2.length ≤ (walkC p f q c x).1.length ∧ (∀ y ∈ (walkC p f q c x).2, 0 ≤ y ∧ y < (p.length : Int)) ∧ c.length ≤ (walkC p f q c x).2.length
  | 0, q, c, x, hq, hc, hv, h0, h1 => ⟨hq, hc, hv, Nat.le_refl _⟩
  | f + 1, q, c, x, hq, hc, hv, h0, h1 => by
    rw [walkC]
    by_cases hm : x ∈ q
    · rw [if_pos hm]
      exact ⟨hq, hc, hv, Nat.le_refl _⟩
    · rw [if_neg hm]
      have hx := perm_rd hp h0 h1
      have := walkC_bd hp f (q ++ [x]) (c ++ [x]) (rd p x) (few_snoc hq h0 h1 hm) (by simp; omega) (fun y hy => by
        rcases List.mem_append.1 hy with hy | hy
        · exact hv y hy
        · simp at hy; subst hy; exact ⟨h0, h1⟩) hx.1 hx.2
      refine ⟨this.1, this.2.1, this.2.2.1, ?_⟩
      have := this.2.2.2
      simp at this
      omega
def GoodC (c : List Int) : Prop := (∀ y ∈ c, 0 ≤ y ∧ y < 24) ∧ c.length ≤ 24
theorem walkOf_bd {p q : List Int} (hp : isPerm p) (hq : Few p.length q) {i : Int} (h0 : 0 ≤ i) (h1 : i < p.length) : Few p.length (walkOf p q i).1 ∧ GoodC (walkOf p q i).2 := by
  have h := walkC_bd hp (p.length + 1 - q.length) q [] i hq (by simp) (by simp) h0 h1
  have hn := hp.1
  have hl := few_len h.1
  refine ⟨h.1, fun y hy => ?_, ?_⟩
  · have := h.2.2.1 y hy
    omega
  · have h2 := h.2.1
    have e : (walkC p (p.length + 1 - q.length) q [] i) = walkOf p q i := rfl
    rw [e] at h2 hl
    omega
theorem walkOf_in {p q : List Int} (hq : Few p.length q) {i : Int} (hm : i ∈ q) : walkOf p q i = (q, []) := by
  unfold walkOf
  have hl := few_len hq
  obtain ⟨f, hf⟩ : ∃ f, p.length + 1 - q.length = f + 1 := ⟨p.length - q.length, by omega⟩
  rw [hf, walkC, if_pos hm]
theorem cycGo_bd {p : List Int} (hp : isPerm p) : ∀ (d : Nat) (i : Int) (q : List Int) (out : List (List Int)), 0 ≤ i → i + d = p.length → Few p.length q → (∀ c ∈ out, GoodC c) →
    (∀ c ∈ cycGo p d i q out, GoodC c) ∧ (cycGo p d i q out).length ≤ out.length + d
  | 0, _, _, out, _, _, _, ho => ⟨ho, Nat.le_refl _⟩
  | d + 1, i, q, out, h0, hi, hq, ho => by
    have hw := walkOf_bd hp hq h0 (show i < p.length by omega)
    simp only [cycGo]
    by_cases hm : i ∈ q
    · rw [if_pos hm]
      have := cycGo_bd hp d (i + 1) (walkOf p q i).1 out (by omega) (by omega) hw.1 ho
      exact ⟨this.1, by have := this.2; omega⟩
    · rw [if_neg hm]
      have := cycGo_bd hp d (i + 1) (walkOf p q i).1 (out ++ [(walkOf p q i).2]) (by omega) (by omega) hw.1 (fun c hc => by
        rcases List.mem_append.1 hc with hc | hc
        · exact ho c hc
        · simp at hc; subst hc; exact hw.2)
      refine ⟨this.1, ?_⟩
      have := this.2
      simp at this
      omega
theorem cyclesOf_bd (p : List Int) : (∀ c ∈ cyclesOf p, GoodC c) ∧ (cyclesOf p).length ≤ 24 := by
  unfold cyclesOf
  by_cases h : permB p = true
  · rw [if_pos h]
    have hp := (permB_iff p).1 h
    have := cycGo_bd hp p.length 0 [] [] (by omega) (by omega) ⟨by simp, by simp⟩ (by simp)
    refine ⟨this.1, ?_⟩
    have := this.2
    have := hp.1
    simp at *
    omega
  · rw [if_neg h]
    simp
theorem impl_cyc_l1 {p : List Int} (hp : isPerm p) (out : List (List Int)) (ho : out.length ≤ 24) (i : Int) (hi : 0 ≤ i ∧ i < p.length) (r : List (List Int)) : ∀ (f : Nat) (q c : List Int) (x : Int), Few p.length q → c.length ≤ q.length → f + q.length = p.length + 1 → 0 ≤ x → x < p.length →
    Ev (fun k => impl_CyclesOf.l0 k p (flagsOf p.length (walkC p f q c x).1) (out ++ [(walkC p f q c x).2]) (p.length : Int) (i + 1)) r →
    Ev (fun k => impl_CyclesOf.l1 k p (flagsOf p.length q) out c x (p.length : Int) i) r
  | 0, q, c, x, hq, _, hf, _, _, _ => by
    have := few_len hq
    omega
  | f + 1, q, c, x, hq, hc, hf, h0, h1, hr => by
    have hn := hp.1
    have hql := few_len hq
    refine ev_up ?_
    have hw : wrap64 (i + 1) = i + 1 := pw_wrap (by omega) (by omega)
    simp only [impl_CyclesOf.l1, if_pos h0, flagsOf_len, if_pos h1, flagsOf_rd p.length q h0 h1, hw]
    rw [walkC] at hr
    by_cases hm : x ∈ q
    · rw [if_pos hm] at hr
      simp only [decide_eq_true hm, if_true, if_pos (show out.length < 5864062014805 by omega)]
      exact hr
    · rw [if_neg hm] at hr
      simp only [decide_eq_false hm, Bool.false_eq_true, if_false, if_pos (show c.length < 17592186044416 by omega), flagsOf_set p.length q h0 h1]
      have hx := perm_rd hp h0 h1
      exact impl_cyc_l1 hp out ho i hi r f (q ++ [x]) (c ++ [x]) (rd p x) (few_snoc hq h0 h1 hm) (by simp; omega) (by simp; omega) hx.1 hx.2 hr
theorem impl_cyc_l0 {p : List Int} (hp : isPerm p) : ∀ (d : Nat) (i : Int) (q : List Int) (out : List (List Int)), 0 ≤ i → i + d = p.length → Few p.length q → out.length + d ≤ 24 →
    Ev (fun k => impl_CyclesOf.l0 k p (flagsOf p.length q) out (p.length : Int) i) (cycGo p d i q out)
  | 0, i, q, out, h0, hi, hq, ho => by
    refine ev_up ?_
    simp only [impl_CyclesOf.l0, if_neg (show ¬ i < (p.length : Int) by omega)]
    exact Ev.now _
  | d + 1, i, q, out, h0, hi, hq, ho => by
    refine ev_up ?_
    have h1 : i < (p.length : Int) := by omega
    have hn := hp.1
    have hw64 : wrap64 (i + 1) = i + 1 := pw_wrap (by omega) (by omega)
    simp only [impl_CyclesOf.l0, if_pos h1, if_pos h0, flagsOf_len, flagsOf_rd p.length q h0 h1, hw64]
    have hql := few_len hq
    rw [cycGo]
    by_cases hm : i ∈ q
    · simp only [decide_eq_true hm, if_true]
      rw [walkOf_in hq hm, if_pos hm]
      exact impl_cyc_l0 hp d (i + 1) q out (by omega) (by omega) hq (by omega)
    · simp only [decide_eq_false hm, Bool.false_eq_true, if_false, if_neg hm]
      refine impl_cyc_l1 hp out (by omega) i ⟨h0, h1⟩ _ (p.length + 1 - q.length) q [] i hq (by simp) (by omega) h0 h1 ?_
      have e : walkC p (p.length + 1 - q.length) q [] i = walkOf p q i := rfl
      rw [e]
      have hw := walkOf_bd hp hq h0 h1
      exact impl_cyc_l0 hp d (i + 1) _ _ (by omega) (by omega) hw.1 (by simp; omega)
theorem impl_cycles (p : List Int) : Ev (fun k => impl_CyclesOf.f k p) (cyclesOf p) := by
  unfold impl_CyclesOf.f cyclesOf
  simp only [impl_PermOk.f, Option.bind_some]
  by_cases h : permB p = true
  · have hp := (permB_iff p).1 h
    have hn := hp.1
    simp only [if_pos h, if_pos (Int.natCast_nonneg p.length), Int.toNat_natCast, if_pos (show p.length ≤ 281474976710656 by omega), ← flagsOf_nil]
    exact impl_cyc_l0 hp p.length 0 [] [] (by omega) (by omega) ⟨by simp, by simp⟩ (by simp; omega)
  · simp only [if_neg h]
    exact Ev.now _

/-! Inverses of permutations; one after the other. -/
theorem rd_ext {a b : List Int} (hl : a.length = b.length) (h : ∀ x : Int, 0 ≤ x → x < a.length → rd a x = rd b x) : a = b := by
  apply List.ext_getElem hl
  intro i h1 h2
  have := h (i : Int) (by omega) (by omega)
  rwa [rd_get a i h1, rd_get b i h2] at this
theorem rdS_same {a : List Int} {k v : Int} (k0 : 0 ≤ k) (k1 : k < a.length) : rd (a.set k.toNat v) k = v := by
  have : k.toNat < a.length := by omega
  simp [rd, List.getD, this]
theorem rdS_ne {a : List Int} {k l v : Int} (k0 : 0 ≤ k) (l0 : 0 ≤ l) (h : l ≠ k) : rd (a.set k.toNat v) l = rd a l := by
  have : k.toNat ≠ l.toNat := by omega
  simp [rd, List.getD, List.getElem?_set_ne this]
theorem pm_in {p : List Int} (hp : isPerm p) {x : Int} (x0 : 0 ≤ x) (x1 : x < p.length) : 0 ≤ rd p x ∧ rd p x < p.length := perm_rd hp x0 x1
theorem pm_inj {p : List Int} (hp : isPerm p) {x y : Int} (x0 : 0 ≤ x) (x1 : x < p.length) (y0 : 0 ≤ y) (y1 : y < p.length) (e : rd p x = rd p y) : x = y := by
  obtain ⟨i, rfl⟩ := Int.eq_ofNat_of_zero_le x0
  obtain ⟨j, rfl⟩ := Int.eq_ofNat_of_zero_le y0
  have hi : i < p.length := by omega
  have hj : j < p.length := by omega
  rw [rd_get p i hi, rd_get p j hj] at e
  have := List.pairwise_iff_getElem.1 hp.2.2
  rcases Nat.lt_trichotomy i j with h | h | h
  · exact absurd e (this i j hi hj h)
  · rw [h]
  · exact absurd e.symm (this j i hj hi h)
theorem pm_sur {p : List Int} (hp : isPerm p) {y : Int} (y0 : 0 ≤ y) (y1 : y < p.length) : ∃ x : Int, 0 ≤ x ∧ x < p.length ∧ rd p x = y := by
  have hm : y ∈ p := few_full (n := p.length) ⟨hp.2.2, hp.2.1⟩ rfl y0 y1
  obtain ⟨i, hi, e⟩ := List.getElem_of_mem hm
  exact ⟨(i : Int), by omega, by omega, by rw [rd_get p i hi, e]⟩
theorem pm_of {a : List Int} (hl : a.length ≤ 24) (hb : ∀ x : Int, 0 ≤ x → x < a.length → 0 ≤ rd a x ∧ rd a x < a.length) (hi : ∀ x y : Int, 0 ≤ x → x < a.length → 0 ≤ y → y < a.length → rd a x = rd a y → x = y) : isPerm a := by
  refine ⟨hl, fun x hx => ?_, ?_⟩
  · obtain ⟨i, h, rfl⟩ := List.getElem_of_mem hx
    have := hb (i : Int) (by omega) (by omega)
    rwa [rd_get a i h] at this
  · refine List.pairwise_iff_getElem.2 fun i j h1 h2 hij e => ?_
    have := hi (i : Int) (j : Int) (by omega) (by omega) (by omega) (by omega) (by rw [rd_get a i h1, rd_get a j h2, e])
    omega
def invGo (p : List Int) : Nat → Int → List Int → List Int
  | 0, _, out => out
  | d + 1, i, out => invGo p d (i + 1) (out.set (rd p i).toNat i)
def invL (p : List Int) : List Int := invGo p p.length 0 (List.replicate p.length 0)
theorem invGo_spec {p : List Int} (hp : isPerm p) : ∀ (d : Nat) (i : Int) (out : List Int), 0 ≤ i → i + d = p.length → out.length = p.length → (∀ j : Int, 0 ≤ j → j < i → rd out (rd p j) = j) →
    (invGo p d i out).length = p.length ∧ ∀ j : Int, 0 ≤ j → j < p.length → rd (invGo p d i out) (rd p j) = j
  | 0, i, out, h0, hi, hl, h => ⟨hl, fun j j0 j1 => h j j0 (by omega)⟩
  | d + 1, i, out, h0, hi, hl, h => by
    have hb := pm_in hp h0 (by omega)
    refine invGo_spec hp d (i + 1) _ (by omega) (by omega) (by simpa using hl) ?_
    intro j j0 j1
    by_cases e : j = i
    · subst e
      exact rdS_same hb.1 (by omega)
    · have hj := pm_in hp j0 (by omega)
      rw [rdS_ne hb.1 hj.1 (fun e2 => e (pm_inj hp j0 (by omega) h0 (by omega) e2))]
      exact h j j0 (by omega)
theorem invL_len {p : List Int} (hp : isPerm p) : (invL p).length = p.length := (invGo_spec hp p.length 0 _ (by omega) (by omega) (by simp) (fun j j0 j1 => by omega)).1
theorem inv_left {p : List Int} (hp : isPerm p) {x : Int} (h0 : 0 ≤ x) (h1 : x < p.length) : rd (invL p) (rd p x) = x := (invGo_spec hp p.length 0 _ (by omega) (by omega) (by simp) (fun j j0 j1 => by omega)).2 x h0 h1
theorem inv_right {p : List Int} (hp : isPerm p) {y : Int} (h0 : 0 ≤ y) (h1 : y < p.length) : rd p (rd (invL p) y) = y ∧ 0 ≤ rd (invL p) y ∧ rd (invL p) y < p.length := by
  obtain ⟨x, x0, x1, e⟩ := pm_sur hp h0 h1
  rw [← e, inv_left hp x0 x1]
  exact ⟨rfl, x0, x1⟩
theorem inv_perm {p : List Int} (hp : isPerm p) : isPerm (invL p) := by
  have hl := invL_len hp
  refine pm_of (by have := hp.1; omega) (fun x h0 h1 => ?_) (fun x y x0 x1 y0 y1 e => ?_)
  · have := inv_right hp h0 (by omega)
    omega
  · rw [← (inv_right hp x0 (by omega)).1, e, (inv_right hp y0 (by omega)).1]
def thenL (p q : List Int) : List Int := p.map (rd q)
theorem then_len (p q : List Int) : (thenL p q).length = p.length := by simp [thenL]
theorem then_rd (p q : List Int) {x : Int} (h0 : 0 ≤ x) (h1 : x < p.length) : rd (thenL p q) x = rd q (rd p x) := by
  obtain ⟨i, rfl⟩ := Int.eq_ofNat_of_zero_le h0
  have hi : i < p.length := by omega
  rw [rd_get _ i (by rw [then_len]; exact hi), rd_get p i hi]
  simp [thenL]
theorem then_perm {p q : List Int} (hp : isPerm p) (hq : isPerm q) (he : p.length = q.length) : isPerm (thenL p q) := by
  have hl := then_len p q
  refine pm_of (by have := hp.1; omega) (fun x h0 h1 => ?_) (fun x y x0 x1 y0 y1 e => ?_)
  · have a := pm_in hp h0 (by omega)
    have := pm_in hq a.1 (by omega)
    rw [then_rd p q h0 (by omega)]
    omega
  · rw [then_rd p q x0 (by omega), then_rd p q y0 (by omega)] at e
    have a := pm_in hp x0 (by omega)
    have b := pm_in hp y0 (by omega)
    exact pm_inj hp x0 (by omega) y0 (by omega) (pm_inj hq a.1 (by omega) b.1 (by omega) e)
/-! What the functions compute. -/
theorem spec_inv_l0 {p : List Int} (hp : isPerm p) : ∀ (d : Nat) (i : Int) (out : List Int), 0 ≤ i → i + d = p.length → out.length = p.length → Ev (fun k => spec_l02Inverse.l0 k out p (p.length : Int) i) (invGo p d i out)
  | 0, i, out, h0, hi, hl => by
    refine ev_up ?_
    simp only [spec_l02Inverse.l0, if_neg (show ¬ i < (p.length : Int) by omega)]
    exact Ev.now _
  | d + 1, i, out, h0, hi, hl => by
    have hb := pm_in hp h0 (by omega)
    have hn := hp.1
    refine ev_up ?_
    simp only [spec_l02Inverse.l0, if_pos (show i < (p.length : Int) by omega), if_pos h0, if_pos hb.1, if_pos (show rd p i < (out.length : Int) by omega), pw_wrap (a := i + 1) (by omega) (by omega)]
    exact spec_inv_l0 hp d (i + 1) _ (by omega) (by omega) (by simpa using hl)
theorem spec_inv {p : List Int} (hp : isPerm p) : Ev (fun k => spec_l02Inverse.f k p) (invL p) := by
  have hn := hp.1
  unfold spec_l02Inverse.f
  simp only [if_pos (Int.natCast_nonneg p.length), Int.toNat_natCast, if_pos (show p.length ≤ 35184372088832 by omega)]
  exact spec_inv_l0 hp p.length 0 _ (by omega) (by omega) (by simp)
theorem impl_inv_l0 {p : List Int} (hp : isPerm p) : ∀ (d : Nat) (i : Int) (out : List Int), 0 ≤ i → i + d = p.length → out.length = p.length → Ev (fun k => impl_InversePerm.l0 k out p (p.length : Int) i) (invGo p d i out)
  | 0, i, out, h0, hi, hl => by
    refine ev_up ?_
    simp only [impl_InversePerm.l0, if_neg (show ¬ i < (p.length : Int) by omega)]
    exact Ev.now _
  | d + 1, i, out, h0, hi, hl => by
    have hb := pm_in hp h0 (by omega)
    have hn := hp.1
    refine ev_up ?_
    simp only [impl_InversePerm.l0, if_pos (show i < (p.length : Int) by omega), if_pos h0, if_pos hb.1, if_pos (show rd p i < (out.length : Int) by omega), pw_wrap (a := i + 1) (by omega) (by omega)]
    exact impl_inv_l0 hp d (i + 1) _ (by omega) (by omega) (by simpa using hl)
theorem impl_inv {p : List Int} (hp : isPerm p) : Ev (fun k => impl_InversePerm.f k p) (invL p) := by
  have hn := hp.1
  unfold impl_InversePerm.f
  simp only [impl_PermOk.f, Option.bind_some, if_pos ((permB_iff p).2 hp), if_pos (Int.natCast_nonneg p.length), Int.toNat_natCast, if_pos (show p.length ≤ 35184372088832 by omega)]
  exact impl_inv_l0 hp p.length 0 _ (by omega) (by omega) (by simp)
theorem spec_thn_l0 (q p : List Int) (hp : p.length ≤ 1000) (hb : ∀ x ∈ p, 0 ≤ x ∧ x < (q.length : Int)) : ∀ (suf pre : List Int), p = pre ++ suf → Ev (fun k => spec_l02Then.l0 k q (pre.map (rd q)) p (p.length : Int) (pre.length : Int)) (p.map (rd q))
  | [], pre, e => by
    have e2 : p = pre := by simpa using e
    subst e2
    refine ev_up ?_
    simp only [spec_l02Then.l0, if_neg (show ¬ ((p.length : Int) < p.length) by omega)]
    exact Ev.now _
  | x :: suf, pre, e => by
    have hlen : p.length = pre.length + suf.length + 1 := by rw [e]; simp; omega
    have hx : rd p (pre.length : Int) = x := by rw [e]; simp [rd, List.getD]
    have hw : wrap64 ((pre.length : Int) + 1) = ((pre ++ [x]).length : Int) := by rw [pw_wrap (by omega) (by omega)]; simp
    have hxb := hb x (by rw [e]; simp)
    have ih := spec_thn_l0 q p hp hb suf (pre ++ [x]) (by simp [e])
    refine ev_up ?_
    simp only [spec_l02Then.l0, if_pos (show ((pre.length : Int) < p.length) by omega), if_pos (Int.natCast_nonneg pre.length), hx, hw, if_pos hxb.1, if_pos hxb.2, List.length_map, if_pos (show pre.length < 17592186044416 by omega)]
    rw [List.map_append] at ih
    exact ih
theorem spec_thn {p q : List Int} (hp : isPerm p) (he : p.length = q.length) : Ev (fun k => spec_l02Then.f k p q) (thenL p q) :=
  spec_thn_l0 q p (by have := hp.1; omega) (fun x hx => by have := hp.2.1 x hx; omega) p [] rfl
theorem impl_thn_l0 {p q : List Int} (hp : isPerm p) (he : p.length = q.length) : ∀ (d : Nat) (i : Int) (out : List Int), 0 ≤ i → i + d = p.length → out.length = p.length → (∀ j : Int, 0 ≤ j → j < i → rd out j = rd q (rd p j)) → Ev (fun k => impl_ThenPerm.l0 k q out p (p.length : Int) i) (thenL p q)
  | 0, i, out, h0, hi, hl, h => by
    refine ev_up ?_
    simp only [impl_ThenPerm.l0, if_neg (show ¬ i < (p.length : Int) by omega)]
    have e : out = thenL p q := rd_ext (by rw [hl, then_len]) (fun x x0 x1 => by rw [then_rd p q x0 (by omega)]; exact h x x0 (by omega))
    rw [e]
    exact Ev.now _
  | d + 1, i, out, h0, hi, hl, h => by
    have hb := pm_in hp h0 (by omega)
    have hn := hp.1
    refine ev_up ?_
    simp only [impl_ThenPerm.l0, if_pos (show i < (p.length : Int) by omega), if_pos h0, if_pos hb.1, if_pos (show rd p i < (q.length : Int) by omega), if_pos (show i < (out.length : Int) by omega), pw_wrap (a := i + 1) (by omega) (by omega)]
    refine impl_thn_l0 hp he d (i + 1) _ (by omega) (by omega) (by simpa using hl) (fun j j0 j1 => ?_)
    by_cases e : j = i
    · subst e
      exact rdS_same h0 (by omega)
    · rw [rdS_ne h0 j0 e]
      exact h j j0 (by omega)
theorem impl_thn {p q : List Int} (hp : isPerm p) (hq : isPerm q) (he : p.length = q.length) : Ev (fun k => impl_ThenPerm.f k p q) (thenL p q) := by
  have hn := hp.1
  unfold impl_ThenPerm.f
  simp only [impl_PermOk.f, Option.bind_some, if_pos ((permB_iff p).2 hp), if_pos ((permB_iff q).2 hq), show ((p.length : Int) != (q.length : Int)) = false by rw [bne_eq_false_iff_eq]; omega]
  refine ev_up ?_
  simp only [impl_ThenPerm.j0, Bool.false_eq_true, if_false, if_pos (Int.natCast_nonneg p.length), Int.toNat_natCast, if_pos (show p.length ≤ 35184372088832 by omega)]
  exact impl_thn_l0 hp he p.length 0 _ (by omega) (by omega) (by simp) (fun j j0 j1 => by omega)

theorem spec_has_l0 (l : List Int) (hl : l.length ≤ 4611686018427387904) (x : Int) : ∀ (suf pre : List Int), l = pre ++ suf →
    Ev (fun k => spec_l02Has.l0 k x l (l.length : Int) (pre.length : Int)) (decide (x ∈ suf)) := by
  intro suf
  induction suf with
  | nil =>
    intro pre h
    subst h
    refine ev_up ?_
    simp only [spec_l02Has.l0, if_neg (nlt_end pre)]
    simpa using Ev.now false
  | cons c suf ih =>
    intro pre h
    have := ih (pre ++ [c]) (by simp [h])
    subst h
    refine ev_up ?_
    by_cases hc : c = x
    · simp only [spec_l02Has.l0, if_pos (lt_mid pre suf c), if_pos (Int.natCast_nonneg pre.length), rd_mid, if_pos hc]
      simpa [hc] using Ev.now true
    · simp only [spec_l02Has.l0, if_pos (lt_mid pre suf c), if_pos (Int.natCast_nonneg pre.length), rd_mid, if_neg hc, wrap_snoc hl]
      rw [show decide (x ∈ c :: suf) = decide (x ∈ suf) by simp [Ne.symm hc]]
      exact this
theorem spec_has (l : List Int) (hl : l.length ≤ 4611686018427387904) (x : Int) : Ev (fun k => spec_l02Has.f k l x) (decide (x ∈ l)) := spec_has_l0 l hl x l [] rfl

def nbT (r u : List Int) (x : Int) : List Int := [rd r x, rd u x]
theorem spec_reach_l1 (rr u : List Int) (n : Nat) (hn : n ≤ 24) (x8 : Int) (hx : 0 ≤ x8 ∧ x8 ≤ 1000) (ys : List Int) (hy : ys.length ≤ 1000) (r : List Int) : ∀ (suf pre q : List Int), ys = pre ++ suf → Few n q → (∀ k ∈ suf, 0 ≤ k ∧ k < (n : Int)) →
    Ev (fun k => spec_l02Reach.l0 k rr u (pushAll q suf) (x8 + 1)) r → Ev (fun k => spec_l02Reach.l1 k rr u q x8 ys (ys.length : Int) (pre.length : Int)) r := by
  intro suf
  induction suf with
  | nil =>
    intro pre q h hq hk hr
    subst h
    refine ev_up ?_
    simp only [spec_l02Reach.l1, if_neg (nlt_end pre), pw_wrap (a := x8 + 1) (by omega) (by omega)]
    exact hr
  | cons c suf ih =>
    intro pre q h hq hk hr
    have hc := hk c (by simp)
    have hf := few_push hq hc.2
    have hi := ih (pre ++ [c]) (push q c) (by simp [h]) hf (fun k h' => hk k (by simp [h'])) hr
    subst h
    have hql := few_len hq
    refine ev_up ?_
    simp only [spec_l02Reach.l1, if_pos (lt_mid pre suf c), if_pos (Int.natCast_nonneg pre.length), rd_mid, wrap_snoc (x := c) (s := suf) (p := pre) (by simp at hy ⊢; omega)]
    refine Ev.bind (spec_has q (by omega) c) ?_
    by_cases hm : c ∈ q
    · simp only [decide_eq_true hm, if_true]
      unfold push at hi
      rw [if_neg (fun h => h.2 hm)] at hi
      exact hi
    · simp only [decide_eq_false hm, Bool.false_eq_true, if_false, if_pos (show q.length < 17592186044416 by omega)]
      unfold push at hi
      rw [if_pos ⟨hc.1, hm⟩] at hi
      exact hi
theorem nbT_lt {rr u : List Int} (hr : isPerm rr) (hu : isPerm u) (he : rr.length = u.length) {x : Int} (h0 : 0 ≤ x) (h1 : x < rr.length) : ∀ k ∈ nbT rr u x, 0 ≤ k ∧ k < (rr.length : Int) := by
  intro k hk
  have a := perm_rd hr h0 h1
  have b := perm_rd hu h0 (by omega)
  simp only [nbT, List.mem_cons, List.not_mem_nil, or_false] at hk
  rcases hk with rfl | rfl <;> omega
theorem spec_reach_l0 {rr u : List Int} (hr : isPerm rr) (hu : isPerm u) (he : rr.length = u.length) : ∀ (f : Nat) (q : List Int) (i : Nat), Few rr.length q → i ≤ q.length → f + i = rr.length + 1 →
    Ev (fun k => spec_l02Reach.l0 k rr u q (i : Int)) (bfs (nbT rr u) f q i) := by
  intro f
  have hn := hr.1
  induction f with
  | zero =>
    intro q i hq hi hf
    have := few_len hq
    omega
  | succ f ih =>
    intro q i hq hi hf
    have hql := few_len hq
    refine ev_up ?_
    by_cases h : i < q.length
    · have hx := hq.2 _ (List.getElem_mem h)
      simp only [spec_l02Reach.l0, if_pos (show ((i : Nat) : Int) < (q.length : Int) by omega), if_pos (Int.natCast_nonneg i), rd_get q i h, if_pos hx.1, if_pos hx.2, if_pos (show q[i] < (u.length : Int) by omega), Option.bind_some]
      have hlt := nbT_lt hr hu he hx.1 hx.2
      have hp := few_pushAll _ q hq (fun k hk => (hlt k hk).2)
      have := ih _ (i + 1) hp.1 (by have := hp.2; omega) (by omega)
      rw [bfs, dif_pos h]
      exact spec_reach_l1 rr u rr.length hn i (by omega) (nbT rr u q[i]) (by simp [nbT]) _ _ [] q rfl hq hlt this
    · simp only [spec_l02Reach.l0, if_neg (show ¬ ((i : Nat) : Int) < (q.length : Int) by omega)]
      rw [bfs_done _ _ _ _ h]
      exact Ev.now _
def reachOf (r u : List Int) : List Int := bfs (nbT r u) (r.length + 1) [0] 0
def transB (r u : List Int) : Bool := permB r && permB u && decide (r.length = u.length) && decide (0 < r.length) && ((reachOf r u).length : Int) == (r.length : Int)
theorem few_z {n : Nat} (h : 1 ≤ n) : Few n [0] := ⟨by simp, fun x hx => by simp at hx; subst hx; omega⟩
theorem spec_trans (r u : List Int) : Ev (fun k => spec_IsTransitive.f k r u) (transB r u) := by
  unfold spec_IsTransitive.f transB
  simp only [spec_PermOk.f, ← perm_same, Option.bind_some]
  by_cases h1 : permB r = true
  · simp only [h1, if_true, Bool.true_and]
    by_cases h2 : permB u = true
    · simp only [h2, if_true, Bool.true_and]
      by_cases h3 : r.length = u.length
      · simp only [if_pos (show (r.length : Int) = u.length by omega), decide_eq_true h3, Bool.true_and]
        by_cases h4 : 0 < r.length
        · simp only [if_pos (show (r.length : Int) > 0 by omega), decide_eq_true h4, Bool.true_and]
          refine Ev.bind (a := reachOf r u) ?_ (Ev.now _)
          unfold spec_l02Reach.f
          exact spec_reach_l0 ((permB_iff r).1 h1) ((permB_iff u).1 h2) h3 _ [0] 0 (few_z h4) (by simp) (by omega)
        · simp only [if_neg (show ¬ (r.length : Int) > 0 by omega), decide_eq_false h4, Bool.false_and]
          exact Ev.now _
      · simp only [if_neg (show ¬ (r.length : Int) = u.length by omega), decide_eq_false h3, Bool.false_and]
        exact Ev.now _
    · simp only [Bool.eq_false_iff.2 h2, Bool.false_eq_true, if_false, Bool.false_and]
      exact Ev.now _
  · simp only [Bool.eq_false_iff.2 h1, Bool.false_eq_true, if_false, Bool.false_and]
    exact Ev.now _
theorem impl_trans_l1 (rr u : List Int) (n : Nat) (hn : n ≤ 24) (x8 : Int) (hx : 0 ≤ x8 ∧ x8 ≤ 1000) (ys : List Int) (hy : ys.length ≤ 1000) (r : Bool) : ∀ (suf pre q : List Int), ys = pre ++ suf → Few n q → (∀ k ∈ suf, 0 ≤ k ∧ k < (n : Int)) →
    Ev (fun k => impl_IsTransitive.l0 k rr u (flagsOf n (pushAll q suf)) (pushAll q suf) (x8 + 1)) r → Ev (fun k => impl_IsTransitive.l1 k rr u (flagsOf n q) q x8 ys (ys.length : Int) (pre.length : Int)) r := by
  intro suf
  induction suf with
  | nil =>
    intro pre q h hq hk hr
    subst h
    refine ev_up ?_
    simp only [impl_IsTransitive.l1, if_neg (nlt_end pre), pw_wrap (a := x8 + 1) (by omega) (by omega)]
    exact hr
  | cons c suf ih =>
    intro pre q h hq hk hr
    have hc := hk c (by simp)
    have hf := few_push hq hc.2
    have hi := ih (pre ++ [c]) (push q c) (by simp [h]) hf (fun k h' => hk k (by simp [h'])) hr
    subst h
    have hql := few_len hq
    refine ev_up ?_
    simp only [impl_IsTransitive.l1, if_pos (lt_mid pre suf c), if_pos (Int.natCast_nonneg pre.length), rd_mid, wrap_snoc (x := c) (s := suf) (p := pre) (by simp at hy ⊢; omega), if_pos hc.1, flagsOf_len, if_pos hc.2, flagsOf_rd n q hc.1 hc.2]
    by_cases hm : c ∈ q
    · simp only [decide_eq_true hm, if_true]
      unfold push at hi
      rw [if_neg (fun h => h.2 hm)] at hi
      exact hi
    · simp only [decide_eq_false hm, Bool.false_eq_true, if_false, if_pos (show q.length < 17592186044416 by omega), flagsOf_set n q hc.1 hc.2]
      unfold push at hi
      rw [if_pos ⟨hc.1, hm⟩] at hi
      exact hi
theorem impl_trans_l0 {rr u : List Int} (hr : isPerm rr) (hu : isPerm u) (he : rr.length = u.length) : ∀ (f : Nat) (q : List Int) (i : Nat), Few rr.length q → i ≤ q.length → f + i = rr.length + 1 →
    Ev (fun k => impl_IsTransitive.l0 k rr u (flagsOf rr.length q) q (i : Int)) (((bfs (nbT rr u) f q i).length : Int) == (rr.length : Int)) := by
  intro f
  have hn := hr.1
  induction f with
  | zero =>
    intro q i hq hi hf
    have := few_len hq
    omega
  | succ f ih =>
    intro q i hq hi hf
    have hql := few_len hq
    refine ev_up ?_
    by_cases h : i < q.length
    · have hx := hq.2 _ (List.getElem_mem h)
      simp only [impl_IsTransitive.l0, if_pos (show ((i : Nat) : Int) < (q.length : Int) by omega), if_pos (Int.natCast_nonneg i), rd_get q i h, if_pos hx.1, if_pos hx.2, if_pos (show q[i] < (u.length : Int) by omega), Option.bind_some]
      have hlt := nbT_lt hr hu he hx.1 hx.2
      have hp := few_pushAll _ q hq (fun k hk => (hlt k hk).2)
      have := ih _ (i + 1) hp.1 (by have := hp.2; omega) (by omega)
      rw [bfs, dif_pos h]
      exact impl_trans_l1 rr u rr.length hn i (by omega) (nbT rr u q[i]) (by simp [nbT]) _ _ [] q rfl hq hlt this
    · simp only [impl_IsTransitive.l0, if_neg (show ¬ ((i : Nat) : Int) < (q.length : Int) by omega)]
      rw [bfs_done _ _ _ _ h]
      exact Ev.now _
theorem impl_trans (r u : List Int) : Ev (fun k => impl_IsTransitive.f k r u) (transB r u) := by
  unfold impl_IsTransitive.f transB
  have hbad : ∀ b : Bool, b = false → Ev (fun k => impl_IsTransitive.j0 k r u true) b := by
    rintro b rfl
    refine ev_up ?_
    simp only [impl_IsTransitive.j0, if_true]
    exact Ev.now _
  simp only [impl_PermOk.f, Option.bind_some]
  by_cases h1 : permB r = true
  · simp only [h1, if_true, Bool.true_and]
    by_cases h2 : permB u = true
    · simp only [h2, if_true, Bool.true_and]
      by_cases h3 : r.length = u.length
      · simp only [if_pos (show (r.length : Int) = u.length by omega), decide_eq_true h3, Bool.true_and]
        by_cases h4 : 0 < r.length
        · have hn := ((permB_iff r).1 h1).1
          have e : ((r.length : Int) == 0) = false := by simp; intro e; rw [e] at h4; exact absurd h4 (by simp)
          rw [e]
          simp only [decide_eq_true h4, Bool.true_and]
          refine ev_up ?_
          have hset : (List.replicate r.length false).set (0 : Int).toNat true = flagsOf r.length [0] := by
            rw [← flagsOf_nil, flagsOf_set r.length [] (by omega) (by omega)]
            rfl
          simp only [impl_IsTransitive.j0, Bool.false_eq_true, if_false, if_pos (Int.natCast_nonneg r.length), Int.toNat_natCast, if_pos (show r.length ≤ 281474976710656 by omega), Option.bind_some, List.length_replicate, if_pos (show (0 : Int) < (r.length : Int) by omega), hset]
          exact impl_trans_l0 ((permB_iff r).1 h1) ((permB_iff u).1 h2) h3 _ [0] 0 (few_z h4) (by simp) (by omega)
        · have e : ((r.length : Int) == 0) = true := by
            have : r.length = 0 := by omega
            rw [this]; rfl
          rw [e]
          simp only [decide_eq_false h4, Bool.false_and]
          exact hbad _ rfl
      · simp only [if_neg (show ¬ (r.length : Int) = u.length by omega), decide_eq_false h3, Bool.false_and]
        exact hbad _ rfl
    · simp only [Bool.eq_false_iff.2 h2, Bool.false_eq_true, if_false, Bool.false_and]
      exact hbad _ rfl
  · simp only [Bool.eq_false_iff.2 h1, Bool.false_eq_true, if_false, Bool.false_and]
    exact hbad _ rfl
theorem transB_side {r u : List Int} (h : transB r u = true) : isPerm r ∧ isPerm u ∧ r.length = u.length ∧ 0 < r.length ∧ (reachOf r u).length = r.length := by
  unfold transB at h
  simp only [Bool.and_eq_true, decide_eq_true_eq, beq_iff_eq] at h
  obtain ⟨⟨⟨⟨h1, h2⟩, h3⟩, h4⟩, h5⟩ := h
  exact ⟨(permB_iff r).1 h1, (permB_iff u).1 h2, h3, h4, by omega⟩
theorem spec_surfOk (r u : List Int) : Ev (fun k => spec_SurfaceOk.f k r u) (transB r u) := Ev.bind (spec_trans r u) (Ev.now _)
theorem impl_surfOk (r u : List Int) : Ev (fun k => impl_SurfaceOk.f k r u) (transB r u) := Ev.bind (impl_trans r u) (Ev.now _)

theorem mem_push {q : List Int} {x : Int} (k : Int) (h : x ∈ q) : x ∈ push q k := by
  unfold push
  split
  · exact List.mem_append_left _ h
  · exact h
theorem mem_pushAll {x : Int} : ∀ (ks q : List Int), x ∈ q → x ∈ pushAll q ks
  | [], _, h => h
  | k :: ks, q, h => mem_pushAll ks (push q k) (mem_push k h)
theorem push_mem {q : List Int} {k : Int} (h : 0 ≤ k) : k ∈ push q k := by
  unfold push
  by_cases hk : k ∈ q
  · rw [if_neg (fun z => z.2 hk)]
    exact hk
  · rw [if_pos ⟨h, hk⟩]
    simp
theorem pushAll_mem {k : Int} (h0 : 0 ≤ k) : ∀ (ks q : List Int), k ∈ ks → k ∈ pushAll q ks
  | [], _, h => absurd h (by simp)
  | c :: ks, q, h => by
    rcases List.mem_cons.1 h with rfl | h
    · exact mem_pushAll ks _ (push_mem h0)
    · exact pushAll_mem h0 ks (push q c) h
theorem pushAll_pre : ∀ (ks q : List Int), ∃ s, pushAll q ks = q ++ s
  | [], q => ⟨[], by simp [pushAll]⟩
  | k :: ks, q => by
    obtain ⟨s, hs⟩ := pushAll_pre ks (push q k)
    have e : pushAll q (k :: ks) = pushAll (push q k) ks := rfl
    rw [e, hs]
    unfold push
    split
    · exact ⟨k :: s, by simp⟩
    · exact ⟨s, rfl⟩
theorem bfs_pre (nb : Int → List Int) : ∀ (f : Nat) (q : List Int) (i : Nat), ∃ s, bfs nb f q i = q ++ s
  | 0, q, i => ⟨[], by simp [bfs]⟩
  | f + 1, q, i => by
    rw [bfs]
    split
    · rename_i h
      obtain ⟨s, hs⟩ := pushAll_pre (nb q[i]) q
      obtain ⟨s', hs'⟩ := bfs_pre nb f (pushAll q (nb q[i])) (i + 1)
      exact ⟨s ++ s', by rw [hs', hs, List.append_assoc]⟩
    · exact ⟨[], by simp⟩
/-- What is met is closed. -/
theorem bfs_closed {n : Nat} (nb : Int → List Int) (hnb : ∀ x : Int, 0 ≤ x → x < (n : Int) → ∀ k ∈ nb x, k < (n : Int)) : ∀ (f : Nat) (q : List Int) (i : Nat), Few n q → f + i = n + 1 → (∀ j (h : j < q.length), j < i → ∀ k ∈ nb q[j], 0 ≤ k → k ∈ q) →
    ∀ x ∈ bfs nb f q i, ∀ k ∈ nb x, 0 ≤ k → k ∈ bfs nb f q i
  | 0, q, i, hq, hf, hc => by
    intro x hx k hk h0
    have e : bfs nb 0 q i = q := rfl
    rw [e] at hx ⊢
    obtain ⟨j, hj, rfl⟩ := List.getElem_of_mem hx
    have := few_len hq
    exact hc j hj (by omega) k hk h0
  | f + 1, q, i, hq, hf, hc => by
    rw [bfs]
    split
    · rename_i h
      have hr := hq.2 _ (List.getElem_mem h)
      have hp := few_pushAll (nb q[i]) q hq (hnb _ hr.1 hr.2)
      refine bfs_closed nb hnb f _ (i + 1) hp.1 (by omega) ?_
      intro j hj hji k hk h0
      obtain ⟨s, hs⟩ := pushAll_pre (nb q[i]) q
      have hjq : j < q.length := by omega
      have e : (pushAll q (nb q[i]))[j] = q[j] := by simp [hs, List.getElem_append_left hjq]
      rw [e] at hk
      by_cases hji2 : j = i
      · subst hji2
        exact pushAll_mem h0 _ _ hk
      · exact mem_pushAll _ _ (hc j hjq (by omega) k hk h0)
    · rename_i h
      intro x hx k hk h0
      obtain ⟨j, hj, rfl⟩ := List.getElem_of_mem hx
      exact hc j hj (by omega) k hk h0
/-- What is met lies in every closed set with the beginning. -/
theorem bfs_sub (nb : Int → List Int) (P : Int → Prop) (hP : ∀ x, P x → ∀ k ∈ nb x, 0 ≤ k → P k) : ∀ (f : Nat) (q : List Int) (i : Nat), (∀ x ∈ q, P x) → ∀ x ∈ bfs nb f q i, P x
  | 0, q, i, h => h
  | f + 1, q, i, h => by
    rw [bfs]
    split
    · rename_i hi
      refine bfs_sub nb P hP f _ (i + 1) ?_
      have hx := h _ (List.getElem_mem hi)
      have all : ∀ (ks q : List Int), (∀ k ∈ ks, 0 ≤ k → P k) → (∀ x ∈ q, P x) → ∀ x ∈ pushAll q ks, P x := by
        intro ks
        induction ks with
        | nil => exact fun q _ h => h
        | cons k ks ih =>
          intro q hk hq
          refine ih (push q k) (fun z hz => hk z (List.mem_cons_of_mem _ hz)) ?_
          intro z hz
          unfold push at hz
          split at hz
          · rename_i hc
            rcases List.mem_append.1 hz with hz | hz
            · exact hq z hz
            · simp at hz
              subst hz
              exact hk z List.mem_cons_self hc.1
          · exact hq z hz
      exact all _ q (fun k hk h0 => hP _ hx k hk h0) h
    · exact h

/-! Half turns. -/
/-! The reference's: along the squares as they are met. -/
def Ord (nb : Int → List Int) (q : List Int) : Prop := ∀ (j : Nat) (h : j < q.length), q[j] = 0 ∨ ∃ (i : Nat) (h' : i < j), q[j] ∈ nb (q[i]'(by omega))
theorem ord_push {nb : Int → List Int} {q : List Int} (ho : Ord nb q) {y k : Int} (hy : y ∈ q) (hk : k ∈ nb y) : Ord nb (push q k) := by
  unfold push
  split
  · obtain ⟨i, hi, rfl⟩ := List.getElem_of_mem hy
    intro j h
    by_cases hj : j < q.length
    · rw [List.getElem_append_left hj]
      rcases ho j hj with h2 | ⟨m, hm, h2⟩
      · exact .inl h2
      · exact .inr ⟨m, hm, by rw [List.getElem_append_left (by omega)]; exact h2⟩
    · have hj2 : j = q.length := by simp at h; omega
      subst hj2
      refine .inr ⟨i, hi, ?_⟩
      rw [List.getElem_append_left hi]
      simpa using hk
  · exact ho
theorem ord_pushAll {nb : Int → List Int} {y : Int} : ∀ (ks q : List Int), Ord nb q → y ∈ q → (∀ k ∈ ks, k ∈ nb y) → Ord nb (pushAll q ks)
  | [], q, ho, _, _ => ho
  | k :: ks, q, ho, hy, hk => by
    have e : pushAll q (k :: ks) = pushAll (push q k) ks := rfl
    rw [e]
    exact ord_pushAll ks (push q k) (ord_push ho hy (hk k (by simp))) (mem_push k hy) (fun z hz => hk z (List.mem_cons_of_mem _ hz))
theorem ord_bfs (nb : Int → List Int) : ∀ (f : Nat) (q : List Int) (i : Nat), Ord nb q → Ord nb (bfs nb f q i)
  | 0, q, i, h => h
  | f + 1, q, i, h => by
    rw [bfs]
    split
    · rename_i hi
      exact ord_bfs nb f _ _ (ord_pushAll (nb q[i]) q h (List.getElem_mem hi) (fun k hk => hk))
    · exact h
theorem reach_facts {r u : List Int} (h : transB r u = true) : Few r.length (reachOf r u) ∧ (∀ z : Int, 0 ≤ z → z < r.length → z ∈ reachOf r u) ∧ Ord (nbT r u) (reachOf r u) := by
  obtain ⟨hr, hu, he, h0, hq⟩ := transB_side h
  have hf : Few r.length (reachOf r u) := bfs_few (nbT r u) (fun x x0 x1 k hk => (nbT_lt hr hu he x0 x1 k hk).2) _ [0] 0 (few_z h0)
  refine ⟨hf, fun z z0 z1 => few_full hf hq z0 z1, ord_bfs _ _ _ _ ?_⟩
  intro j hj
  have : j = 0 := by simp at hj; omega
  subst this
  exact .inl rfl
/-! The program's: a list of the squares met. -/
/-- A step again and again. -/
def iter (f : Int → Int) : Nat → Int → Int
  | 0, x => x
  | m + 1, x => iter f m (f x)
theorem iter_succ (f : Int → Int) : ∀ (m : Nat) (x : Int), iter f (m + 1) x = f (iter f m x)
  | 0, _ => rfl
  | m + 1, x => by rw [iter, iter_succ f m (f x), ← iter]
theorem iter_bd {n : Nat} {f : Int → Int} (hb : ∀ x : Int, 0 ≤ x → x < n → 0 ≤ f x ∧ f x < n) : ∀ (m : Nat) {x : Int}, 0 ≤ x → x < n → 0 ≤ iter f m x ∧ iter f m x < n
  | 0, _, h0, h1 => ⟨h0, h1⟩
  | m + 1, x, h0, h1 => iter_bd hb m (hb x h0 h1).1 (hb x h0 h1).2
def orb (f : Int → Int) : Nat → Int → List Int
  | 0, x => [x]
  | k + 1, x => x :: (orb f k x).map f
theorem orb_len (f : Int → Int) : ∀ (k : Nat) (x : Int), (orb f k x).length = k + 1
  | 0, _ => rfl
  | k + 1, x => by simp [orb, orb_len f k x]
theorem orb_mem (f : Int → Int) : ∀ (k : Nat) (x y : Int), y ∈ orb f k x → ∃ m, m ≤ k ∧ y = iter f m x
  | 0, x, y, h => by
    simp only [orb, List.mem_singleton] at h
    exact ⟨0, Nat.le_refl _, h⟩
  | k + 1, x, y, h => by
    simp only [orb, List.mem_cons, List.mem_map] at h
    rcases h with rfl | ⟨z, hz, rfl⟩
    · exact ⟨0, by omega, rfl⟩
    · obtain ⟨m, hm, rfl⟩ := orb_mem f k x z hz
      exact ⟨m + 1, by omega, (iter_succ f m x).symm⟩
theorem map_nodup {n : Nat} {g : Int → Int} (hg : ∀ x y : Int, 0 ≤ x → x < n → 0 ≤ y → y < n → g x = g y → x = y) : ∀ q : List Int, (∀ x ∈ q, 0 ≤ x ∧ x < (n : Int)) → q.Nodup → (q.map g).Nodup
  | [], _, _ => List.nodup_nil
  | y :: q, hb, hn => by
    have hn2 := List.nodup_cons.1 hn
    rw [List.map_cons, List.nodup_cons]
    refine ⟨fun hm => ?_, map_nodup hg q (fun z hz => hb z (List.mem_cons_of_mem _ hz)) hn2.2⟩
    obtain ⟨z, hz, e⟩ := List.mem_map.1 hm
    have b1 := hb z (List.mem_cons_of_mem _ hz)
    have b2 := hb y List.mem_cons_self
    have := hg z y b1.1 b1.2 b2.1 b2.2 e
    subst this
    exact hn2.1 hz
theorem orb_few {n : Nat} {f : Int → Int} (hb : ∀ x : Int, 0 ≤ x → x < n → 0 ≤ f x ∧ f x < n) (hg : ∀ x y : Int, 0 ≤ x → x < n → 0 ≤ y → y < n → f x = f y → x = y) {x : Int} (h0 : 0 ≤ x) (h1 : x < n) : ∀ k : Nat, (∀ m, 1 ≤ m → m ≤ k → iter f m x ≠ x) → Few n (orb f k x)
  | 0, _ => ⟨by simp [orb], fun y hy => by simp only [orb, List.mem_singleton] at hy; subst hy; exact ⟨h0, h1⟩⟩
  | k + 1, h => by
    have ih := orb_few hb hg h0 h1 k (fun m a b => h m a (by omega))
    refine ⟨?_, fun y hy => ?_⟩
    · rw [orb, List.nodup_cons]
      refine ⟨fun hm => ?_, map_nodup hg _ ih.2 ih.1⟩
      obtain ⟨z, hz, e⟩ := List.mem_map.1 hm
      obtain ⟨m, hm2, rfl⟩ := orb_mem f k x z hz
      have e : f (iter f m x) = x := e
      rw [← iter_succ f m x] at e
      exact h (m + 1) (by omega) (by omega) e
    · obtain ⟨m, _, rfl⟩ := orb_mem f (k + 1) x y hy
      exact iter_bd hb m h0 h1
/-- A one-to-one step on n places comes back within n steps. -/
theorem iter_ret {n : Nat} {f : Int → Int} (hb : ∀ x : Int, 0 ≤ x → x < n → 0 ≤ f x ∧ f x < n) (hg : ∀ x y : Int, 0 ≤ x → x < n → 0 ≤ y → y < n → f x = f y → x = y) {x : Int} (h0 : 0 ≤ x) (h1 : x < n) : ∃ m, 1 ≤ m ∧ m ≤ n ∧ iter f m x = x := by
  refine Classical.byContradiction fun hc => ?_
  have := few_len (orb_few hb hg h0 h1 n (fun m a b e => hc ⟨m, a, b, e⟩))
  rw [orb_len] at this
  omega
/-! Names from a square; renaming. -/
theorem rd_memL {q : List Int} {x : Int} (x0 : 0 ≤ x) (x1 : x < q.length) : rd q x ∈ q := by
  have e : ((x.toNat : Nat) : Int) = x := by omega
  rw [← e, rd_get q x.toNat (by omega)]
  exact List.getElem_mem _
def reachK (r u : List Int) (k : Int) : List Int := bfs (nbT r u) (r.length + 1) [k] 0
theorem few_one {n : Nat} {k : Int} (k0 : 0 ≤ k) (k1 : k < n) : Few n [k] := ⟨by simp, fun x hx => by simp at hx; subst hx; exact ⟨k0, k1⟩⟩
theorem few_isPerm {q : List Int} {n : Nat} (hn : n ≤ 24) (h : Few n q) (hl : q.length = n) : isPerm q := ⟨by omega, fun x hx => by have := h.2 x hx; omega, h.1⟩
/-- What is closed under a permutation's steps is closed under its steps back. -/
theorem closed_back {p : List Int} (hp : isPerm p) {P : Int → Prop} (hP : ∀ x : Int, 0 ≤ x → x < p.length → P x → P (rd p x)) {x : Int} (x0 : 0 ≤ x) (x1 : x < p.length) (h : P (rd p x)) : P x := by
  obtain ⟨m, m1, hm⟩ : ∃ m, 0 < m ∧ iter (rd p) m x = x := by
    obtain ⟨p', p1, _, e⟩ := iter_ret (n := p.length) (f := rd p) (fun y y0 y1 => pm_in hp y0 y1) (fun a b a0 a1 b0 b1 e => pm_inj hp a0 a1 b0 b1 e) x0 x1
    exact ⟨p', p1, e⟩
  obtain ⟨m', rfl⟩ : ∃ m', m = m' + 1 := ⟨m - 1, by omega⟩
  have e : iter (rd p) m' (rd p x) = x := hm
  have b := pm_in hp x0 x1
  have key : ∀ j, P (iter (rd p) j (rd p x)) ∧ 0 ≤ iter (rd p) j (rd p x) ∧ iter (rd p) j (rd p x) < p.length := by
    intro j
    induction j with
    | zero => exact ⟨h, b.1, b.2⟩
    | succ j ih =>
      rw [iter_succ]
      exact ⟨hP _ ih.2.1 ih.2.2 ih.1, pm_in hp ih.2.1 ih.2.2⟩
  rw [← e]
  exact (key m').1
/-- From every square all are met. -/
theorem reachK_full {r u : List Int} (h : transB r u = true) {k : Int} (k0 : 0 ≤ k) (k1 : k < r.length) : Few r.length (reachK r u k) ∧ (reachK r u k).length = r.length := by
  obtain ⟨hr, hu, he, h0, hq⟩ := transB_side h
  obtain ⟨g1, g2, g3⟩ := reach_facts h
  have hnb : ∀ x : Int, 0 ≤ x → x < r.length → ∀ y ∈ nbT r u x, 0 ≤ y ∧ y < (r.length : Int) := fun x x0 x1 => nbT_lt hr hu he x0 x1
  have hf : Few r.length (reachK r u k) := bfs_few (nbT r u) (fun x x0 x1 y hy => (hnb x x0 x1 y hy).2) _ [k] 0 (few_one k0 k1)
  have hc := bfs_closed (n := r.length) (nbT r u) (fun x x0 x1 y hy => (hnb x x0 x1 y hy).2) (r.length + 1) [k] 0 (few_one k0 k1) (by omega) (fun j hj hji => absurd hji (Nat.not_lt_zero _))
  have hk : k ∈ reachK r u k := by
    obtain ⟨s, hs⟩ := bfs_pre (nbT r u) (r.length + 1) [k] 0
    unfold reachK
    rw [hs]
    simp
  have c1 : ∀ x : Int, 0 ≤ x → x < r.length → x ∈ reachK r u k → rd r x ∈ reachK r u k := fun x x0 x1 hx => hc x hx _ (by simp [nbT]) (pm_in hr x0 x1).1
  have c2 : ∀ x : Int, 0 ≤ x → x < u.length → x ∈ reachK r u k → rd u x ∈ reachK r u k := fun x x0 x1 hx => hc x hx _ (by simp [nbT]) (pm_in hu x0 x1).1
  have n1 : ∀ x : Int, 0 ≤ x → x < r.length → x ∉ reachK r u k → rd r x ∉ reachK r u k := fun x x0 x1 hx hm => hx (closed_back hr c1 x0 x1 hm)
  have n2 : ∀ x : Int, 0 ≤ x → x < u.length → x ∉ reachK r u k → rd u x ∉ reachK r u k := fun x x0 x1 hx hm => hx (closed_back hu c2 x0 x1 hm)
  have z : (0 : Int) ∈ reachK r u k := by
    refine Classical.byContradiction fun hz => ?_
    have all := bfs_sub (nbT r u) (fun x => (0 ≤ x ∧ x < (r.length : Int)) ∧ x ∉ reachK r u k) (fun x hx y hy _ => by
      refine ⟨hnb x hx.1.1 hx.1.2 y hy, ?_⟩
      simp only [nbT, List.mem_cons, List.not_mem_nil, or_false] at hy
      rcases hy with rfl | rfl
      · exact n1 x hx.1.1 hx.1.2 hx.2
      · exact n2 x hx.1.1 (by omega) hx.2) (r.length + 1) [0] 0 (fun x hx => by simp at hx; subst hx; exact ⟨⟨by omega, by omega⟩, hz⟩)
    exact (all k (g2 k k0 k1)).2 hk
  have full : ∀ x : Int, 0 ≤ x → x < r.length → x ∈ reachK r u k := fun x x0 x1 =>
    bfs_sub (nbT r u) (fun x => x ∈ reachK r u k) (fun x hx y hy y0 => hc x hx y hy y0) (r.length + 1) [0] 0 (fun x hx => by simp at hx; subst hx; exact z) x (g2 x x0 x1)
  refine ⟨hf, ?_⟩
  have hl := few_len hf
  refine Nat.le_antisymm hl (Nat.le_of_not_lt fun hlt => ?_)
  have hp := few_isPerm hr.1 g1 (by
    have := hq
    exact this)
  have hle : (reachOf r u).length ≤ (reachK r u k).length := by
    have hs : ∀ x ∈ reachOf r u, x ∈ reachK r u k := fun x hx => full x (g1.2 x hx).1 (g1.2 x hx).2
    have key : ∀ (a b : List Int), a.Nodup → (∀ x ∈ a, x ∈ b) → a.length ≤ b.length := by
      intro a
      induction a with
      | nil => intro b _ _; simp
      | cons x a ih =>
        intro b hn hs
        obtain ⟨b1, b2, rfl⟩ := List.append_of_mem (hs x (by simp))
        have hx := List.nodup_cons.1 hn
        have := ih (b1 ++ b2) hx.2 (fun y hy => by
          have := hs y (List.mem_cons_of_mem _ hy)
          simp only [List.mem_append, List.mem_cons] at this ⊢
          rcases this with h | h | h
          · exact .inl h
          · subst h; exact absurd hy hx.1
          · exact .inr h)
        simp only [List.length_append, List.length_cons] at this ⊢
        omega
    exact key _ _ g1.1 hs
  omega
def namesOf (r u : List Int) (k : Int) : List Int := invL (reachK r u k)
theorem reachK_perm {r u : List Int} (h : transB r u = true) {k : Int} (k0 : 0 ≤ k) (k1 : k < r.length) : isPerm (reachK r u k) := by
  have hf := reachK_full h k0 k1
  exact few_isPerm (transB_side h).1.1 hf.1 hf.2
theorem names_perm {r u : List Int} (h : transB r u = true) {k : Int} (k0 : 0 ≤ k) (k1 : k < r.length) : isPerm (namesOf r u k) ∧ (namesOf r u k).length = r.length := by
  have hp := reachK_perm h k0 k1
  have hf := reachK_full h k0 k1
  exact ⟨inv_perm hp, by unfold namesOf; rw [invL_len hp, hf.2]⟩
/-! The program's: the numbers as they are met. -/
def numI (n : Nat) (q : List Int) : List Int := (List.range n).map fun (z : Nat) => if (z : Int) ∈ q then ((q.idxOf (z : Int) : Nat) : Int) else -1
theorem numI_len (n : Nat) (q : List Int) : (numI n q).length = n := by simp [numI]
theorem numI_rd (n : Nat) (q : List Int) {z : Int} (z0 : 0 ≤ z) (z1 : z < n) : rd (numI n q) z = if z ∈ q then ((q.idxOf z : Nat) : Int) else -1 := by
  have e : ((z.toNat : Nat) : Int) = z := by omega
  simp [rd, numI, List.getD, show z.toNat < n by omega, e]
theorem numI_push (n : Nat) (q : List Int) {x : Int} (x0 : 0 ≤ x) (x1 : x < n) (hx : x ∉ q) : (numI n q).set x.toNat (q.length : Int) = numI n (q ++ [x]) := by
  refine rd_ext (by simp [numI]) (fun z z0 z1 => ?_)
  rw [List.length_set, numI_len] at z1
  rw [numI_rd n _ z0 z1]
  by_cases e : z = x
  · subst e
    rw [rdS_same x0 (by rw [numI_len]; exact x1), if_pos (by simp), List.idxOf_append, if_neg hx]
    simp
  · rw [rdS_ne x0 z0 e, numI_rd n q z0 z1]
    by_cases hz : z ∈ q
    · rw [if_pos hz, if_pos (List.mem_append_left _ hz), List.idxOf_append, if_pos hz]
    · rw [if_neg hz, if_neg (by simp [hz, e])]
theorem numI_full {n : Nat} {q : List Int} (hq : isPerm q) (hl : q.length = n) : numI n q = invL q := by
  refine rd_ext (by rw [numI_len, invL_len hq, hl]) (fun z z0 z1 => ?_)
  rw [numI_len] at z1
  have hz := inv_right hq z0 (by omega)
  have hm : z ∈ q := by
    have := rd_memL (q := q) hz.2.1 (by omega)
    rwa [hz.1] at this
  rw [numI_rd n q z0 z1, if_pos hm]
  have hi : q.idxOf z < q.length := List.idxOf_lt_length_of_mem hm
  have e : rd q ((q.idxOf z : Nat) : Int) = z := by rw [rd_get q _ hi]; exact List.getElem_idxOf hi
  exact pm_inj hq (by omega) (by omega) hz.2.1 hz.2.2 (by rw [e, hz.1])
theorem impl_names_l2 (rr u : List Int) (n : Nat) (hn : n ≤ 24) (x8 : Int) (hx : 0 ≤ x8 ∧ x8 ≤ 1000) (ys : List Int) (hy : ys.length ≤ 1000) (r : List Int) : ∀ (suf pre q : List Int), ys = pre ++ suf → Few n q → (∀ k ∈ suf, 0 ≤ k ∧ k < (n : Int)) →
    Ev (fun k => impl_NamesFrom.l1 k (numI n (pushAll q suf)) (pushAll q suf) (x8 + 1) rr u) r → Ev (fun k => impl_NamesFrom.l2 k (numI n q) q x8 ys (ys.length : Int) (pre.length : Int) rr u) r := by
  intro suf
  induction suf with
  | nil =>
    intro pre q h hq hk hr
    subst h
    refine ev_up ?_
    simp only [impl_NamesFrom.l2, if_neg (nlt_end pre), pw_wrap (a := x8 + 1) (by omega) (by omega)]
    exact hr
  | cons c suf ih =>
    intro pre q h hq hk hr
    have hc := hk c (by simp)
    have hf := few_push hq hc.2
    have hi := ih (pre ++ [c]) (push q c) (by simp [h]) hf (fun k h' => hk k (by simp [h'])) hr
    subst h
    have hql := few_len hq
    refine ev_up ?_
    simp only [impl_NamesFrom.l2, if_pos (lt_mid pre suf c), if_pos (Int.natCast_nonneg pre.length), rd_mid, wrap_snoc (x := c) (s := suf) (p := pre) (by simp at hy ⊢; omega), if_pos hc.1, numI_len, if_pos hc.2, numI_rd n q hc.1 hc.2]
    by_cases hm : c ∈ q
    · simp only [if_pos hm, if_neg (show ¬ ((q.idxOf c : Nat) : Int) < 0 by omega)]
      unfold push at hi
      rw [if_neg (fun h => h.2 hm)] at hi
      exact hi
    · simp only [if_neg hm, if_pos (show (-1 : Int) < 0 by omega), if_pos (show q.length < 17592186044416 by omega), numI_push n q hc.1 hc.2 hm]
      unfold push at hi
      rw [if_pos ⟨hc.1, hm⟩] at hi
      exact hi
theorem impl_names_l1 {rr u : List Int} (hr : isPerm rr) (hu : isPerm u) (he : rr.length = u.length) : ∀ (f : Nat) (q : List Int) (i : Nat), Few rr.length q → i ≤ q.length → f + i = rr.length + 1 →
    Ev (fun k => impl_NamesFrom.l1 k (numI rr.length q) q (i : Int) rr u) (numI rr.length (bfs (nbT rr u) f q i)) := by
  intro f
  have hn := hr.1
  induction f with
  | zero =>
    intro q i hq hi hf
    have := few_len hq
    omega
  | succ f ih =>
    intro q i hq hi hf
    have hql := few_len hq
    refine ev_up ?_
    by_cases h : i < q.length
    · have hx := hq.2 _ (List.getElem_mem h)
      simp only [impl_NamesFrom.l1, if_pos (show ((i : Nat) : Int) < (q.length : Int) by omega), if_pos (Int.natCast_nonneg i), rd_get q i h, if_pos hx.1, if_pos hx.2, if_pos (show q[i] < (u.length : Int) by omega), Option.bind_some]
      have hlt := nbT_lt hr hu he hx.1 hx.2
      have hp := few_pushAll _ q hq (fun k hk => (hlt k hk).2)
      have := ih _ (i + 1) hp.1 (by have := hp.2; omega) (by omega)
      rw [bfs, dif_pos h]
      exact impl_names_l2 rr u rr.length hn i (by omega) (nbT rr u q[i]) (by simp [nbT]) _ _ [] q rfl hq hlt this
    · simp only [impl_NamesFrom.l1, if_neg (show ¬ ((i : Nat) : Int) < (q.length : Int) by omega)]
      rw [bfs_done _ _ _ _ h]
      exact Ev.now _
theorem impl_names_l0 (r u : List Int) (n : Nat) (hn : n ≤ 24) {k : Int} (k0 : 0 ≤ k) (k1 : k < n) (res : List Int) : ∀ (d : Nat) (i : Int) (a : List Int), 0 ≤ i → i + d = n → a.length = n → (∀ z : Int, 0 ≤ z → z < i → rd a z = -1) →
    Ev (fun j => impl_NamesFrom.l1 j (numI n [k]) [k] 0 r u) res → Ev (fun j => impl_NamesFrom.l0 j k a (n : Int) i r u) res
  | 0, i, a, i0, hi, ha, hz, hr => by
    have e : a = numI n [] := rd_ext (by rw [numI_len, ha]) (fun x x0 x1 => by
      rw [hz x x0 (by omega), numI_rd n [] x0 (by omega)]
      simp)
    subst e
    have e2 := numI_push n [] k0 k1 (by simp)
    refine ev_up ?_
    simp only [impl_NamesFrom.l0, if_neg (show ¬ i < (n : Int) by omega), if_pos k0, numI_len, if_pos k1]
    have e3 : (numI n []).set k.toNat 0 = numI n [k] := e2
    rw [e3]
    exact hr
  | d + 1, i, a, i0, hi, ha, hz, hr => by
    refine ev_up ?_
    simp only [impl_NamesFrom.l0, if_pos (show i < (n : Int) by omega), if_pos i0, if_pos (show i < (a.length : Int) by omega), pw_wrap (a := i + 1) (by omega) (by omega)]
    refine impl_names_l0 r u n hn k0 k1 res d (i + 1) _ (by omega) (by omega) (by simpa using ha) (fun z z0 z1 => ?_) hr
    by_cases e : z = i
    · subst e
      exact rdS_same z0 (by omega)
    · rw [rdS_ne i0 z0 e]
      exact hz z z0 (by omega)
theorem impl_names {r u : List Int} (h : transB r u = true) {k : Int} (k0 : 0 ≤ k) (k1 : k < r.length) : Ev (fun j => impl_NamesFrom.f j r u k) (namesOf r u k) := by
  obtain ⟨hr, hu, he, h0, _⟩ := transB_side h
  have hn := hr.1
  have hf := reachK_full h k0 k1
  unfold impl_NamesFrom.f
  refine Ev.bind (impl_surfOk r u) ?_
  simp only [if_pos h, if_neg (show ¬ k < 0 by omega), decide_eq_false (show ¬ k ≥ (r.length : Int) by omega)]
  refine ev_up ?_
  simp only [impl_NamesFrom.j0, Bool.false_eq_true, if_false, if_pos (Int.natCast_nonneg r.length), Int.toNat_natCast, if_pos (show r.length ≤ 35184372088832 by omega), Option.bind_some, List.length_replicate]
  refine impl_names_l0 r u r.length hn k0 k1 _ r.length 0 _ (by omega) (by omega) (by simp) (fun z z0 z1 => by omega) ?_
  have e : namesOf r u k = numI r.length (reachK r u k) := (numI_full (reachK_perm h k0 k1) hf.2).symm
  rw [e]
  exact impl_names_l1 hr hu he (r.length + 1) [k] 0 (few_one k0 k1) (by simp) (by omega)
/-! Renaming. -/
def renGo (p nm : List Int) : Nat → Int → List Int → List Int
  | 0, _, out => out
  | d + 1, i, out => renGo p nm d (i + 1) (out.set (rd nm i).toNat (rd nm (rd p i)))
def renL (p nm : List Int) : List Int := renGo p nm p.length 0 (List.replicate p.length 0)
theorem renGo_spec {p nm : List Int} (hp : isPerm p) (hm : isPerm nm) (he : nm.length = p.length) : ∀ (d : Nat) (i : Int) (out : List Int), 0 ≤ i → i + d = p.length → out.length = p.length → (∀ j : Int, 0 ≤ j → j < i → rd out (rd nm j) = rd nm (rd p j)) →
    (renGo p nm d i out).length = p.length ∧ ∀ j : Int, 0 ≤ j → j < p.length → rd (renGo p nm d i out) (rd nm j) = rd nm (rd p j)
  | 0, i, out, i0, hi, ho, hj => ⟨ho, fun j j0 j1 => hj j j0 (by omega)⟩
  | d + 1, i, out, i0, hi, ho, hj => by
    have b := pm_in hm i0 (show i < nm.length by omega)
    rw [renGo]
    refine renGo_spec hp hm he d (i + 1) _ (by omega) (by omega) (by simpa using ho) (fun j j0 j1 => ?_)
    by_cases e : j = i
    · subst e
      exact rdS_same b.1 (by omega)
    · have c := pm_in hm j0 (show j < nm.length by omega)
      rw [rdS_ne b.1 c.1 (fun q => e (pm_inj hm j0 (by omega) i0 (by omega) q))]
      exact hj j j0 (by omega)
theorem renL_len {p nm : List Int} (hp : isPerm p) (hm : isPerm nm) (he : nm.length = p.length) : (renL p nm).length = p.length := (renGo_spec hp hm he p.length 0 _ (by omega) (by omega) (by simp) (fun j j0 j1 => by omega)).1
theorem impl_ren_l0 {p nm : List Int} (hp : isPerm p) (hm : isPerm nm) (he : nm.length = p.length) : ∀ (d : Nat) (i : Int) (out : List Int), 0 ≤ i → i + d = p.length → out.length = p.length → Ev (fun k => impl_RenamePerm.l0 k nm out p (p.length : Int) i) (renGo p nm d i out)
  | 0, i, out, i0, hi, ho => by
    refine ev_up ?_
    simp only [impl_RenamePerm.l0, if_neg (show ¬ i < (p.length : Int) by omega)]
    exact Ev.now _
  | d + 1, i, out, i0, hi, ho => by
    have hn := hp.1
    have i1 : i < p.length := by omega
    have b := pm_in hp i0 i1
    have c := pm_in hm i0 (show i < nm.length by omega)
    refine ev_up ?_
    simp only [impl_RenamePerm.l0, if_pos i1, if_pos i0, if_pos (show i < (nm.length : Int) by omega), if_pos b.1, if_pos (show rd p i < (nm.length : Int) by omega), if_pos c.1, if_pos (show rd nm i < (out.length : Int) by omega), pw_wrap (a := i + 1) (by omega) (by omega)]
    rw [renGo]
    exact impl_ren_l0 hp hm he d (i + 1) _ (by omega) (by omega) (by simpa using ho)
theorem impl_ren {p nm : List Int} (hp : isPerm p) (hm : isPerm nm) (he : nm.length = p.length) : Ev (fun k => impl_RenamePerm.f k p nm) (renL p nm) := by
  have hn := hp.1
  unfold impl_RenamePerm.f
  simp only [impl_PermOk.f, (permB_iff p).2 hp, (permB_iff nm).2 hm, Option.bind_some, if_true, show ((p.length : Int) != (nm.length : Int)) = false by rw [bne_eq_false_iff_eq]; omega]
  refine ev_up ?_
  simp only [impl_RenamePerm.j0, Bool.false_eq_true, if_false, if_pos (Int.natCast_nonneg p.length), Int.toNat_natCast, if_pos (show p.length ≤ 35184372088832 by omega)]
  exact impl_ren_l0 hp hm he p.length 0 _ (by omega) (by omega) (by simp)
theorem impl_renS {r u nm : List Int} (h : transB r u = true) (hm : isPerm nm) (he : nm.length = r.length) : Ev (fun k => impl_RenameSurface.f k r u nm) (renL r nm, renL u nm, true) := by
  obtain ⟨hr, hu, he2, h0, _⟩ := transB_side h
  unfold impl_RenameSurface.f
  refine Ev.bind (impl_surfOk r u) ?_
  simp only [if_pos h, impl_PermOk.f, (permB_iff nm).2 hm, Option.bind_some, if_true, show ((nm.length : Int) != (r.length : Int)) = false by rw [bne_eq_false_iff_eq]; omega]
  refine ev_up ?_
  simp only [impl_RenameSurface.j0, Bool.false_eq_true, if_false]
  refine Ev.bind (impl_ren hr hm he) ?_
  refine Ev.bind (impl_ren hu hm (by omega)) ?_
  exact Ev.now _

/-! Canonical forms. -/
abbrev Sf := S25
/-- The surface with names from a square. -/
def renS (r u : List Int) (k : Int) : Sf := ⟨renL r (namesOf r u k), renL u (namesOf r u k)⟩
theorem renS_len {r u : List Int} (h : transB r u = true) {k : Int} (k0 : 0 ≤ k) (k1 : k < r.length) : (renS r u k).f0.length = r.length ∧ (renS r u k).f1.length = r.length := by
  obtain ⟨hr, hu, he, h0, _⟩ := transB_side h
  have hm := names_perm h k0 k1
  exact ⟨renL_len hr hm.1 hm.2, by rw [he]; exact renL_len hu hm.1 (by omega)⟩
/-- All of them, from a square on. -/
def namedG (r u : List Int) : Nat → Int → List Sf
  | 0, _ => []
  | d + 1, i => renS r u i :: namedG r u d (i + 1)
def namedL (r u : List Int) : List Sf := if transB r u = true then namedG r u r.length 0 else []
theorem namedG_len (r u : List Int) : ∀ (d : Nat) (i : Int), (namedG r u d i).length = d
  | 0, _ => rfl
  | d + 1, i => by simp [namedG, namedG_len r u d]
theorem namedG_in {r u : List Int} (h : transB r u = true) : ∀ (d : Nat) (i : Int), 0 ≤ i → i + d ≤ r.length → ∀ x ∈ namedG r u d i, x.f0.length = r.length ∧ x.f1.length = r.length
  | 0, _, _, _, x, hx => absurd hx (by simp [namedG])
  | d + 1, i, i0, hi, x, hx => by
    rcases List.mem_cons.1 hx with rfl | hx
    · exact renS_len h i0 (by omega)
    · exact namedG_in h d (i + 1) (by omega) (by omega) x hx
theorem impl_squaresN {r u : List Int} (h : transB r u = true) : Ev (fun k => impl_CountSquares.f k r u) (r.length : Int) := by
  unfold impl_CountSquares.f
  refine Ev.bind (impl_surfOk r u) ?_
  simp only [if_pos h]
  exact Ev.now _
theorem impl_named_l0 {r u : List Int} (h : transB r u = true) : ∀ (d : Nat) (i : Int) (out : List Sf), 0 ≤ i → i + d = r.length → out.length + d ≤ 1000 → Ev (fun k => impl_namedFrom.l0 k out i r u) (out ++ namedG r u d i)
  | 0, i, out, i0, hi, ho => by
    refine ev_up ?_
    simp only [impl_namedFrom.l0]
    refine Ev.bind (impl_squaresN h) ?_
    simp only [if_neg (show ¬ i < (r.length : Int) by omega), namedG, List.append_nil]
    exact Ev.now _
  | d + 1, i, out, i0, hi, ho => by
    have hn := (transB_side h).1.1
    have i1 : i < r.length := by omega
    have hm := names_perm h i0 i1
    refine ev_up ?_
    simp only [impl_namedFrom.l0]
    refine Ev.bind (impl_squaresN h) ?_
    simp only [if_pos i1]
    refine Ev.bind (impl_names h i0 i1) ?_
    refine Ev.bind (impl_renS h hm.1 hm.2) ?_
    simp only [if_pos (show out.length < 2932031007402 by omega), pw_wrap (a := i + 1) (by omega) (by omega)]
    have ih := impl_named_l0 h d (i + 1) (out ++ [renS r u i]) (by omega) (by omega) (by simp; omega)
    rw [List.append_assoc] at ih
    exact ih
theorem impl_named (r u : List Int) : Ev (fun k => impl_namedFrom.f k r u) (namedL r u) := by
  unfold impl_namedFrom.f namedL
  by_cases h : transB r u = true
  · rw [if_pos h]
    have hn := (transB_side h).1.1
    have := impl_named_l0 h r.length 0 [] (by omega) (by omega) (by simp; omega)
    simpa using this
  · rw [if_neg h]
    refine ev_up ?_
    simp only [impl_namedFrom.l0]
    refine Ev.bind (a := 0) ?_ ?_
    · unfold impl_CountSquares.f
      refine Ev.bind (impl_surfOk r u) ?_
      simp only [if_neg h]
      exact Ev.now _
    · simp only [if_neg (show ¬ (0 : Int) < 0 by omega)]
      exact Ev.now _
/-! Comparing. -/
def cmpL : List Int → List Int → Int
  | [], [] => 0
  | [], _ :: _ => -1
  | _ :: _, [] => 1
  | x :: a, y :: b => if x < y then -1 else if x > y then 1 else cmpL a b
theorem impl_cmp (x y : Int) : cmp_Compare_int.f x y = some (if x < y then -1 else if x > y then 1 else 0) := by
  unfold cmp_Compare_int.f cmp_isNaN_int.f
  by_cases c : x < y
  · simp [c]
  · by_cases d : x > y
    · simp [c, d]
    · simp [c, d]
theorem impl_cmp_l0 (a b : List Int) (ha : a.length ≤ 1000) : ∀ (sa pa sb pb : List Int), a = pa ++ sa → b = pb ++ sb → pa.length = pb.length → Ev (fun k => slices_Compare_int_int.l0 k a b a (a.length : Int) (pa.length : Int)) (cmpL sa sb)
  | [], pa, sb, pb, ea, eb, hl => by
    have e2 : a = pa := by simpa using ea
    subst e2
    refine ev_up ?_
    simp only [slices_Compare_int_int.l0, if_neg (show ¬ ((a.length : Int) < a.length) by omega)]
    have hb : b.length = pb.length + sb.length := by rw [eb]; simp
    cases sb with
    | nil =>
      simp only [if_neg (show ¬ ((a.length : Int) < (b.length : Int)) by simp at hb; omega), cmpL]
      exact Ev.now _
    | cons y sb =>
      simp only [if_pos (show ((a.length : Int) < (b.length : Int)) by simp at hb; omega), cmpL]
      exact Ev.now _
  | x :: sa, pa, sb, pb, ea, eb, hl => by
    have hlen : a.length = pa.length + sa.length + 1 := by rw [ea]; simp; omega
    have hx : rd a (pa.length : Int) = x := by rw [ea]; exact rd_mid _ _ _
    have hb : b.length = pb.length + sb.length := by rw [eb]; simp
    have hw : wrap64 ((pa.length : Int) + 1) = ((pa ++ [x]).length : Int) := by rw [pw_wrap (by omega) (by omega)]; simp
    refine ev_up ?_
    simp only [slices_Compare_int_int.l0, if_pos (show ((pa.length : Int) < a.length) by omega), if_pos (Int.natCast_nonneg pa.length), hx, hw]
    cases sb with
    | nil =>
      simp only [if_pos (show (pa.length : Int) ≥ (b.length : Int) by simp at hb; omega), cmpL]
      exact Ev.now _
    | cons y sb =>
      have hy : rd b (pa.length : Int) = y := by rw [eb, hl]; exact rd_mid _ _ _
      have hbl : (pa.length : Int) < (b.length : Int) := by simp at hb; omega
      simp only [if_neg (show ¬ (pa.length : Int) ≥ (b.length : Int) by omega), if_pos hbl, hy, impl_cmp, Option.bind_some, cmpL]
      by_cases c : x < y
      · simp only [if_pos c, if_neg (show ¬ (-1 : Int) = 0 by omega)]
        exact Ev.now _
      · by_cases d : x > y
        · simp only [if_neg c, if_pos d, if_neg (show ¬ (1 : Int) = 0 by omega)]
          exact Ev.now _
        · simp only [if_neg c, if_neg d, if_true]
          exact impl_cmp_l0 a b ha sa (pa ++ [x]) sb (pb ++ [y]) (by simp [ea]) (by simp [eb]) (by simp [hl])
theorem impl_cmpL (a b : List Int) (ha : a.length ≤ 1000) : Ev (fun k => slices_Compare_int_int.f k a b) (cmpL a b) := impl_cmp_l0 a b ha a [] b [] rfl rfl rfl
def cmpS (x y : Sf) : Int := if cmpL x.f0 y.f0 = 0 then cmpL x.f1 y.f1 else cmpL x.f0 y.f0
theorem impl_cmpS (x y : Sf) (h0 : x.f0.length ≤ 1000) (h1 : x.f1.length ≤ 1000) : Ev (fun k => impl_compareSurfaces.f k x.f0 x.f1 y.f0 y.f1) (cmpS x y) := by
  unfold impl_compareSurfaces.f cmpS
  refine Ev.bind (impl_cmpL _ _ h0) ?_
  by_cases c : cmpL x.f0 y.f0 = 0
  · simp only [if_pos c]
    exact Ev.bind (impl_cmpL _ _ h1) (Ev.now _)
  · simp only [if_neg c]
    exact Ev.now _
def minS (m : Sf) (l : List Sf) : Sf := l.foldl (fun m x => if cmpS x m < 0 then x else m) m
theorem impl_minGo : ∀ (l : List Sf) (m : Sf), (∀ x ∈ l, x.f0.length ≤ 1000 ∧ x.f1.length ≤ 1000) → Ev (fun k => minGo k m l) (minS m l)
  | [], m, _ => Ev.now _
  | x :: l, m, h => by
    have hx := h x List.mem_cons_self
    refine Ev.congr (f := fun k => (impl_compareSurfaces.f k x.f0 x.f1 m.f0 m.f1).bind fun c => minGo k (if c < 0 then x else m) l) (fun k => rfl) ?_
    refine Ev.bind (impl_cmpS x m hx.1 hx.2) ?_
    exact impl_minGo l _ (fun y hy => h y (List.mem_cons_of_mem _ hy))
def canonS (r u : List Int) : Sf := minS (renS r u 0) (namedG r u (r.length - 1) 1)
theorem named_cons {r u : List Int} (h : transB r u = true) : namedL r u = renS r u 0 :: namedG r u (r.length - 1) 1 := by
  have h0 := (transB_side h).2.2.2.1
  unfold namedL
  rw [if_pos h]
  obtain ⟨m, hm⟩ : ∃ m, r.length = m + 1 := ⟨r.length - 1, by omega⟩
  rw [hm, namedG]
  rfl
def canonR (r u : List Int) : List Int × List Int × Bool := if transB r u = true then ((canonS r u).f0, (canonS r u).f1, true) else ([], [], false)
theorem impl_canon (r u : List Int) : Ev (fun k => impl_CanonOf.f k r u) (canonR r u) := by
  unfold impl_CanonOf.f canonR
  refine Ev.bind (impl_named r u) ?_
  by_cases h : transB r u = true
  · have hn := (transB_side h).1.1
    have hl : (namedL r u).length = r.length := by unfold namedL; rw [if_pos h, namedG_len]
    rw [if_pos h]
    simp only [if_pos (show (namedL r u).length ≤ 1000 by omega)]
    have hc := named_cons h
    rw [hc]
    simp only [if_neg (show ¬ (renS r u 0 :: namedG r u (r.length - 1) 1) = [] by simp)]
    have e0 : rd_T25 (renS r u 0 :: namedG r u (r.length - 1) 1) 0 = renS r u 0 := rfl
    rw [e0]
    refine Ev.bind (a := canonS r u) ?_ (Ev.now _)
    refine impl_minGo _ _ (fun x hx => ?_)
    have := namedG_in h (r.length - 1) 1 (by omega) (by have := (transB_side h).2.2.2.1; omega) x hx
    omega
  · have hl : namedL r u = [] := by unfold namedL; rw [if_neg h]
    rw [if_neg h, hl]
    simp only [List.length_nil, if_pos (show 0 ≤ 1000 by omega), if_true]
    exact Ev.now _
/-! The reference's. -/
theorem impl_eq_l0 (a b : List Int) (ha : a.length ≤ 1000) (hab : a.length = b.length) : ∀ (sa pa sb pb : List Int), a = pa ++ sa → b = pb ++ sb → pa.length = pb.length → Ev (fun k => slices_Equal_int_int.l0 k a b (a.length : Int) (pa.length : Int)) (decide (sa = sb))
  | [], pa, sb, pb, ea, eb, hl => by
    have e2 : a = pa := by simpa using ea
    subst e2
    have hb : b.length = pb.length + sb.length := by rw [eb]; simp
    have : sb = [] := List.eq_nil_of_length_eq_zero (by omega)
    subst this
    refine ev_up ?_
    simp only [slices_Equal_int_int.l0, if_neg (show ¬ ((a.length : Int) < a.length) by omega)]
    exact Ev.now _
  | x :: sa, pa, sb, pb, ea, eb, hl => by
    have hlen : a.length = pa.length + sa.length + 1 := by rw [ea]; simp; omega
    have hx : rd a (pa.length : Int) = x := by rw [ea]; exact rd_mid _ _ _
    have hb : b.length = pb.length + sb.length := by rw [eb]; simp
    have hw : wrap64 ((pa.length : Int) + 1) = ((pa ++ [x]).length : Int) := by rw [pw_wrap (by omega) (by omega)]; simp
    cases sb with
    | nil => simp at hb; omega
    | cons y sb =>
      have hy : rd b (pa.length : Int) = y := by rw [eb, hl]; exact rd_mid _ _ _
      refine ev_up ?_
      simp only [slices_Equal_int_int.l0, if_pos (show ((pa.length : Int) < a.length) by omega), if_pos (Int.natCast_nonneg pa.length), if_pos (show (pa.length : Int) < (b.length : Int) by omega), hx, hy, hw]
      by_cases c : x = y
      · simp only [if_pos c]
        have ih := impl_eq_l0 a b ha hab sa (pa ++ [x]) sb (pb ++ [y]) (by simp [ea]) (by simp [eb]) (by simp [hl])
        have e : decide (x :: sa = y :: sb) = decide (sa = sb) := decide_eq_decide.2 (by simp [c])
        rw [e]
        exact ih
      · simp only [if_neg c, decide_eq_false (show ¬ (x :: sa = y :: sb) by simp [c])]
        exact Ev.now _
theorem impl_sameL (a b : List Int) (ha : a.length ≤ 1000) : Ev (fun k => impl_SameList.f k a b) (decide (a = b)) := by
  unfold impl_SameList.f
  refine Ev.bind (a := decide (a = b)) ?_ (Ev.now _)
  unfold slices_Equal_int_int.f
  by_cases h : a.length = b.length
  · simp only [if_pos (show (a.length : Int) = b.length by omega)]
    exact impl_eq_l0 a b ha h a [] b [] rfl rfl rfl
  · simp only [if_neg (show ¬ (a.length : Int) = b.length by omega), decide_eq_false (show ¬ a = b from fun e => h (congrArg List.length e))]
    exact Ev.now _
theorem impl_sameS (x y : Sf) (h0 : x.f0.length ≤ 1000) (h1 : x.f1.length ≤ 1000) : Ev (fun k => impl_SameSurface.f k x.f0 x.f1 y.f0 y.f1) (decide (x.f0 = y.f0) && decide (x.f1 = y.f1)) := by
  unfold impl_SameSurface.f
  refine Ev.bind (impl_sameL _ _ h0) ?_
  by_cases c : x.f0 = y.f0
  · simp only [decide_eq_true c, if_true, Bool.true_and]
    exact Ev.bind (impl_sameL _ _ h1) (Ev.now _)
  · simp only [decide_eq_false c, Bool.false_eq_true, if_false, Bool.false_and]
    exact Ev.now _
/-! Symmetries. -/
def symS (c : Sf) : List Sf → Int → Int
  | [], n => n
  | s :: l, n => symS c l (if (decide (s.f0 = c.f0) && decide (s.f1 = c.f1)) = true then wrap64 (n + 1) else n)
def symsS (r u : List Int) : Int := if transB r u = true then symS (canonS r u) (namedL r u) 0 else 0
theorem impl_symGo (c : Sf) : ∀ (l : List Sf) (n : Int), (∀ x ∈ l, x.f0.length ≤ 1000 ∧ x.f1.length ≤ 1000) → Ev (fun k => symGo k c.f0 c.f1 l n) (symS c l n)
  | [], n, _ => Ev.now _
  | s :: l, n, h => by
    have hx := h s List.mem_cons_self
    refine Ev.congr (f := fun k => (impl_SameSurface.f k s.f0 s.f1 c.f0 c.f1).bind fun b => symGo k c.f0 c.f1 l (if b = true then wrap64 (n + 1) else n)) (fun k => rfl) ?_
    refine Ev.bind (impl_sameS s c hx.1 hx.2) ?_
    exact impl_symGo c l _ (fun y hy => h y (List.mem_cons_of_mem _ hy))
theorem impl_syms (r u : List Int) : Ev (fun k => impl_CountSymmetries.f k r u) (symsS r u) := by
  unfold impl_CountSymmetries.f symsS
  refine Ev.bind (impl_canon r u) ?_
  refine Ev.bind (impl_named r u) ?_
  by_cases h : transB r u = true
  · have hn := (transB_side h).1.1
    have hl : (namedL r u).length = r.length := by unfold namedL; rw [if_pos h, namedG_len]
    rw [if_pos h]
    simp only [if_pos (show (namedL r u).length ≤ 1000 by omega), canonR, if_pos h]
    refine impl_symGo (canonS r u) _ 0 (fun x hx => ?_)
    unfold namedL at hx
    rw [if_pos h] at hx
    have := namedG_in h r.length 0 (by omega) (by omega) x hx
    omega
  · have hl : namedL r u = [] := by unfold namedL; rw [if_neg h]
    rw [if_neg h, hl]
    simp only [List.length_nil, if_pos (show 0 ≤ 1000 by omega)]
    exact Ev.now _
theorem symS_in (c : Sf) : ∀ (l : List Sf) (n : Int), -9223372036854775808 ≤ n ∧ n ≤ 9223372036854775807 → -9223372036854775808 ≤ symS c l n ∧ symS c l n ≤ 9223372036854775807
  | [], n, h => h
  | s :: l, n, h => by
    rw [symS]
    refine symS_in c l _ ?_
    split
    · unfold wrap64; omega
    · exact h
theorem syms_in (r u : List Int) : -9223372036854775808 ≤ symsS r u ∧ symsS r u ≤ 9223372036854775807 := by
  unfold symsS
  split
  · exact symS_in _ _ 0 (by omega)
  · omega

/-! Descending lists: two that hold the same are one. -/
def sortD (l : List Int) : List Int := l.mergeSort fun x y => decide (y ≤ x)
theorem sortD_perm (l : List Int) : (sortD l).Perm l := List.mergeSort_perm _ _
/-! The cycles of a permutation: every number once; each is closed, and is what comes out of its first. -/
structure Cyc (p : List Int) (c : List Int) : Prop where
  ne : 0 < c.length
  gen : ∀ y ∈ c, ∃ m, y = iter (rd p) m (rd c 0)
  fwd : ∀ y ∈ c, rd p y ∈ c
theorem iter_in {p : List Int} (hp : isPerm p) {i : Int} (i0 : 0 ≤ i) (i1 : i < p.length) : ∀ m, 0 ≤ iter (rd p) m i ∧ iter (rd p) m i < p.length
  | 0 => ⟨i0, i1⟩
  | m + 1 => by
    have h := iter_in hp i0 i1 m
    rw [iter_succ]
    exact pm_in hp h.1 h.2
theorem iter_backq {p q0 : List Int} (hp : isPerm p) (hb : ∀ y : Int, 0 ≤ y → y < p.length → rd p y ∈ q0 → y ∈ q0) {i : Int} (i0 : 0 ≤ i) (i1 : i < p.length) : ∀ m, iter (rd p) m i ∈ q0 → i ∈ q0
  | 0, h => h
  | m + 1, h => by
    rw [iter_succ] at h
    have b := iter_in hp i0 i1 m
    exact iter_backq hp hb i0 i1 m (hb _ b.1 b.2 h)
/-- The numbers met from i on, m of them. -/
def its (p : List Int) (i : Int) (m : Nat) : List Int := (List.range m).map fun k => iter (rd p) k i
theorem its_len (p : List Int) (i : Int) (m : Nat) : (its p i m).length = m := by simp [its]
theorem its_succ (p : List Int) (i : Int) (m : Nat) : its p i (m + 1) = its p i m ++ [iter (rd p) m i] := by simp [its, List.range_succ]
theorem its_get (p : List Int) (i : Int) (m : Nat) (k : Nat) (h : k < (its p i m).length) : (its p i m)[k] = iter (rd p) k i := by simp [its]
theorem its_mem {p : List Int} {i y : Int} {m : Nat} : y ∈ its p i m ↔ ∃ k, k < m ∧ iter (rd p) k i = y := by simp [its]
theorem walkC_cyc {p q0 : List Int} (hp : isPerm p) (hb : ∀ y : Int, 0 ≤ y → y < p.length → rd p y ∈ q0 → y ∈ q0) {i : Int} (i0 : 0 ≤ i) (i1 : i < p.length) (hi : i ∉ q0) :
    ∀ (f m : Nat), Few p.length (q0 ++ its p i m) → f + (q0 ++ its p i m).length = p.length + 1 →
      ∃ M, (m ≤ M ∧ 0 < M) ∧ walkC p f (q0 ++ its p i m) (its p i m) (iter (rd p) m i) = (q0 ++ its p i M, its p i M) ∧ Few p.length (q0 ++ its p i M) ∧ iter (rd p) M i = i
  | 0, m, hq, hf => by
    have := few_len hq
    omega
  | f + 1, m, hq, hf => by
    have bm := iter_in hp i0 i1 m
    rw [walkC]
    by_cases hx : iter (rd p) m i ∈ q0 ++ its p i m
    · rw [if_pos hx]
      rcases List.mem_append.1 hx with hx | hx
      · exact absurd (iter_backq hp hb i0 i1 m hx) hi
      · obtain ⟨j, hj, hji⟩ := its_mem.1 hx
        cases j with
        | zero => exact ⟨m, ⟨Nat.le_refl _, by omega⟩, rfl, hq, hji.symm⟩
        | succ j =>
          exfalso
          obtain ⟨m', rfl⟩ : ∃ m', m = m' + 1 := ⟨m - 1, by omega⟩
          rw [iter_succ, iter_succ] at hji
          have bj := iter_in hp i0 i1 j
          have bm' := iter_in hp i0 i1 m'
          have e := pm_inj hp bj.1 bj.2 bm'.1 bm'.2 hji
          have hn := (List.nodup_append.1 hq.1).2.1
          have e2 : (its p i (m' + 1))[j]'(by rw [its_len]; omega) = (its p i (m' + 1))[m']'(by rw [its_len]; omega) := by rw [its_get, its_get]; exact e
          have := (List.getElem_inj hn).1 e2
          omega
    · rw [if_neg hx]
      have hs : q0 ++ its p i m ++ [iter (rd p) m i] = q0 ++ its p i (m + 1) := by rw [its_succ, List.append_assoc]
      have hq' := few_snoc hq bm.1 bm.2 hx
      rw [hs] at hq'
      obtain ⟨M, hM, h1, h2, h3⟩ := walkC_cyc hp hb i0 i1 hi f (m + 1) hq' (by
        have h1 := congrArg List.length hs
        simp only [List.length_append, List.length_singleton] at h1
        simp only [List.length_append] at hf ⊢
        omega)
      refine ⟨M, ⟨by omega, hM.2⟩, ?_, h2, h3⟩
      rw [hs, ← its_succ, ← iter_succ (rd p)]
      exact h1
theorem its_cyc {p : List Int} {i : Int} {M : Nat} (h0 : 0 < M) (hM : iter (rd p) M i = i) : Cyc p (its p i M) := by
  have hz : rd (its p i M) 0 = i := by
    have := rd_get (its p i M) 0 (by rw [its_len]; exact h0)
    rw [its_get] at this
    exact this
  refine ⟨by rw [its_len]; exact h0, fun y hy => ?_, fun y hy => ?_⟩
  · obtain ⟨k, _, rfl⟩ := its_mem.1 hy
    exact ⟨k, by rw [hz]⟩
  · obtain ⟨k, hk, rfl⟩ := its_mem.1 hy
    rw [← iter_succ (rd p)]
    by_cases e : k + 1 = M
    · rw [e, hM]
      exact its_mem.2 ⟨0, h0, rfl⟩
    · exact its_mem.2 ⟨k + 1, by omega, rfl⟩
theorem its_back {p : List Int} (hp : isPerm p) {i : Int} (i0 : 0 ≤ i) (i1 : i < p.length) {M : Nat} (h0 : 0 < M) (hM : iter (rd p) M i = i) {y : Int} (y0 : 0 ≤ y) (y1 : y < p.length) (h : rd p y ∈ its p i M) : y ∈ its p i M := by
  obtain ⟨k, hk, e⟩ := its_mem.1 h
  have key : ∀ j, rd p (iter (rd p) j i) = rd p y → j < M → y ∈ its p i M := fun j hj hjM => by
    have b := iter_in hp i0 i1 j
    have := pm_inj hp b.1 b.2 y0 y1 hj
    exact its_mem.2 ⟨j, hjM, this⟩
  cases k with
  | zero =>
    refine key (M - 1) ?_ (by omega)
    rw [← iter_succ (rd p), show M - 1 + 1 = M by omega, hM]
    exact e
  | succ k =>
    rw [iter_succ] at e
    exact key k e (by omega)
theorem cycGo_facts {p : List Int} (hp : isPerm p) : ∀ (d : Nat) (i : Int) (q : List Int) (out : List (List Int)), 0 ≤ i → i + d = p.length → Few p.length q → q = out.flatten → (∀ y : Int, 0 ≤ y → y < p.length → rd p y ∈ q → y ∈ q) → (∀ c ∈ out, Cyc p c) → (∀ x : Int, 0 ≤ x → x < i → x ∈ q) →
    Few p.length (cycGo p d i q out).flatten ∧ (∀ x : Int, 0 ≤ x → x < p.length → x ∈ (cycGo p d i q out).flatten) ∧ ∀ c ∈ cycGo p d i q out, Cyc p c
  | 0, i, q, out, i0, hi, hq, e, hb, hc, hx => by
    subst e
    exact ⟨hq, fun x x0 x1 => hx x x0 (by omega), hc⟩
  | d + 1, i, q, out, i0, hi, hq, e, hb, hc, hx => by
    have i1 : i < p.length := by omega
    rw [cycGo]
    by_cases hm : i ∈ q
    · rw [if_pos hm, walkOf_in hq hm]
      exact cycGo_facts hp d (i + 1) q out (by omega) (by omega) hq e hb hc (fun x x0 x1 => by
        by_cases ex : x = i
        · exact ex ▸ hm
        · exact hx x x0 (by omega))
    · rw [if_neg hm]
      have hql := few_len hq
      obtain ⟨M, hM, h1, h2, h3⟩ := walkC_cyc hp hb i0 i1 hm (p.length + 1 - q.length) 0 (by simpa [its] using hq) (by simp [its]; omega)
      have hw : walkOf p q i = (q ++ its p i M, its p i M) := by
        unfold walkOf
        have : walkC p (p.length + 1 - q.length) (q ++ its p i 0) (its p i 0) (iter (rd p) 0 i) = walkC p (p.length + 1 - q.length) q [] i := by simp [its, iter]
        rw [← this]
        exact h1
      rw [hw]
      refine cycGo_facts hp d (i + 1) _ _ (by omega) (by omega) h2 (by simp [e]) (fun y y0 y1 hy => ?_) (fun c hcm => ?_) (fun x x0 x1 => ?_)
      · rcases List.mem_append.1 hy with hy | hy
        · exact List.mem_append_left _ (hb y y0 y1 hy)
        · exact List.mem_append_right _ (its_back hp i0 i1 hM.2 h3 y0 y1 hy)
      · rcases List.mem_append.1 hcm with hcm | hcm
        · exact hc c hcm
        · simp at hcm
          subst hcm
          exact its_cyc hM.2 h3
      · by_cases ex : x = i
        · subst ex
          exact List.mem_append_right _ (its_mem.2 ⟨0, hM.2, rfl⟩)
        · exact List.mem_append_left _ (hx x x0 (by omega))
theorem cycles_facts {p : List Int} (hp : isPerm p) : Few p.length (cyclesOf p).flatten ∧ (∀ x : Int, 0 ≤ x → x < p.length → x ∈ (cyclesOf p).flatten) ∧ ∀ c ∈ cyclesOf p, Cyc p c := by
  unfold cyclesOf
  rw [if_pos ((permB_iff p).2 hp)]
  exact cycGo_facts hp p.length 0 [] [] (by omega) (by omega) ⟨by simp, by simp⟩ rfl (by simp) (by simp) (fun x x0 x1 => by omega)

/-! The permutation around the corners. -/
def aroundL (r u : List Int) : List Int := thenL (thenL r u) (thenL (invL r) (invL u))
def cornersL (r u : List Int) : List (List Int) := if transB r u = true then cyclesOf (aroundL r u) else []
theorem around_perm {r u : List Int} (h : transB r u = true) : isPerm (aroundL r u) ∧ (aroundL r u).length = r.length := by
  obtain ⟨hr, hu, he, h0, _⟩ := transB_side h
  have l1 := invL_len hr
  have l2 := invL_len hu
  unfold aroundL
  refine ⟨then_perm (then_perm hr hu he) (then_perm (inv_perm hr) (inv_perm hu) (by omega)) (by rw [then_len, then_len]; omega), by rw [then_len, then_len]⟩
theorem impl_around {r u : List Int} (h : transB r u = true) : Ev (fun k => impl_AroundOf.f k r u) (aroundL r u) := by
  obtain ⟨hr, hu, he, h0, _⟩ := transB_side h
  have l1 := invL_len hr
  have l2 := invL_len hu
  unfold impl_AroundOf.f aroundL
  refine Ev.bind (impl_surfOk r u) ?_
  simp only [if_pos h]
  refine Ev.bind (impl_thn hr hu he) ?_
  refine Ev.bind (impl_inv hr) ?_
  refine Ev.bind (impl_inv hu) ?_
  refine Ev.bind (impl_thn (inv_perm hr) (inv_perm hu) (by omega)) ?_
  refine Ev.bind (impl_thn (then_perm hr hu he) (then_perm (inv_perm hr) (inv_perm hu) (by omega)) (by rw [then_len, then_len]; omega)) ?_
  exact Ev.now _
theorem impl_corners (r u : List Int) : Ev (fun k => impl_CornersOf.f k r u) (cornersL r u) := by
  unfold impl_CornersOf.f cornersL
  refine Ev.bind (impl_surfOk r u) ?_
  by_cases h : transB r u = true
  · simp only [if_pos h]
    refine Ev.bind (impl_around h) ?_
    refine Ev.bind (impl_cycles _) ?_
    exact Ev.now _
  · simp only [if_neg h]
    exact Ev.now _

/-- A number in decimals. -/
def decB (u : Nat) : ByteArray := ⟨(Go.Lib.decDigits u).toArray⟩
def itoaB (n : Int) : ByteArray := ⟨(Go.Lib.itoa n).toArray⟩
theorem nDig_le : ∀ (d u : Nat), u < 10 ^ (d + 1) → Go.Lib.nDigits u ≤ d + 1
  | 0, u, h => by rw [Go.Lib.nDigits_small (by simpa using h)]; omega
  | d + 1, u, h => by
    by_cases hu : u < 10
    · rw [Go.Lib.nDigits_small hu]; omega
    · rw [Go.Lib.nDigits_big hu]
      have := nDig_le d (u / 10) (by rw [Nat.pow_succ] at h; omega)
      omega
theorem decB_size (u : Nat) : (decB u).size = Go.Lib.nDigits u := by
  show (Go.Lib.decDigits u).toArray.size = _
  rw [List.size_toArray, Go.Lib.decDigits_length]
theorem bytes_app (a b : List UInt8) : (⟨a.toArray⟩ : ByteArray) ++ ⟨b.toArray⟩ = ⟨(a ++ b).toArray⟩ := by
  apply ByteArray.ext
  rw [ByteArray.data_append]
  simp
theorem app_assocB (a b c : ByteArray) : a ++ b ++ c = a ++ (b ++ c) := by
  apply ByteArray.ext
  simp [ByteArray.data_append, Array.append_assoc]
theorem itoaB_pos {n : Int} (h : 0 ≤ n) : itoaB n = decB n.toNat := by
  unfold itoaB Go.Lib.itoa decB
  rw [if_neg (by omega)]
theorem itoaB_neg {n : Int} (h : n < 0) : itoaB n = (⟨#[45]⟩ : ByteArray) ++ decB n.natAbs := by
  unfold itoaB Go.Lib.itoa decB
  rw [if_pos h, show (⟨#[45]⟩ : ByteArray) = ⟨[45].toArray⟩ from rfl, bytes_app]
  rfl
theorem itoaB_size {n : Int} (h0 : -9223372036854775808 ≤ n) (h1 : n ≤ 9223372036854775807) : (itoaB n).size ≤ 20 := by
  by_cases h : 0 ≤ n
  · rw [itoaB_pos h, decB_size]
    have := nDig_le 18 n.toNat (by omega)
    omega
  · rw [itoaB_neg (by omega), ByteArray.size_append, decB_size]
    have := nDig_le 18 n.natAbs (by omega)
    show 1 + _ ≤ 20
    omega
theorem impl_fmtint {n : Int} (h0 : -9223372036854775808 ≤ n) (h1 : n ≤ 9223372036854775807) : impl_FormatInt.f n = some (itoaB n) := by
  unfold impl_FormatInt.f strconv_Itoa.f
  rw [if_pos ⟨h0, h1⟩]
  rfl
def joinOf (l : List ByteArray) (sep : ByteArray) : ByteArray := ⟨(joinB l sep).toArray⟩
def tot (l : List ByteArray) (sep : ByteArray) : Nat := match l with
  | [] => 0
  | x :: xs => x.size + sep.size + tot xs sep
theorem join_two (sep a : List UInt8) (xs : List (List UInt8)) (h : xs ≠ []) : Go.Lib.join (a :: xs) sep = a ++ sep ++ Go.Lib.join xs sep := by
  cases xs with
  | nil => exact absurd rfl h
  | cons b t => simp [Go.Lib.join, List.intercalate]
theorem join_snoc (sep x : List UInt8) : ∀ (xs : List (List UInt8)), xs ≠ [] → Go.Lib.join (xs ++ [x]) sep = Go.Lib.join xs sep ++ sep ++ x
  | [], h => absurd rfl h
  | [a], _ => by simp [Go.Lib.join, List.intercalate]
  | a :: b :: t, _ => by
    rw [List.cons_append, join_two sep a _ (by simp), join_snoc sep x (b :: t) (by simp), join_two sep a (b :: t) (by simp)]
    simp [List.append_assoc]
theorem bytes_self (x : ByteArray) : (⟨x.data.toList.toArray⟩ : ByteArray) = x := by
  apply ByteArray.ext
  simp
theorem joinOf_nil (sep : ByteArray) : joinOf [] sep = ⟨#[]⟩ := by simp [joinOf, joinB, Go.Lib.join, List.intercalate]
theorem joinOf_one (x sep : ByteArray) : joinOf [x] sep = x := by
  simp [joinOf, joinB, Go.Lib.join, List.intercalate]
theorem joinOf_snoc (l : List ByteArray) (x sep : ByteArray) (h : l ≠ []) : joinOf (l ++ [x]) sep = joinOf l sep ++ sep ++ x := by
  unfold joinOf joinB
  rw [List.map_append, List.map_cons, List.map_nil, join_snoc _ _ _ (by simpa using h), ← bytes_app, ← bytes_app, bytes_self, bytes_self]
theorem joinOf_size (sep : ByteArray) : ∀ (l : List ByteArray), (joinOf l sep).size ≤ tot l sep
  | [] => by rw [joinOf_nil]; exact Nat.zero_le _
  | [x] => by rw [joinOf_one]; simp only [tot]; omega
  | x :: y :: l => by
    have h : joinOf (x :: y :: l) sep = x ++ sep ++ joinOf (y :: l) sep := by
      unfold joinOf joinB
      rw [List.map_cons, join_two _ _ _ (by simp), ← bytes_app, ← bytes_app, bytes_self, bytes_self]
    rw [h, ByteArray.size_append, ByteArray.size_append]
    have := joinOf_size sep (y :: l)
    rw [tot]
    omega
theorem impl_join (sep : ByteArray) (l : List ByteArray) (hl : l.length ≤ 1000000000000) (ht : tot l sep ≤ 1000000000000) : impl_Join.f l sep = some (joinOf l sep) := by
  unfold impl_Join.f strings_Join.f
  have hs : (joinB l sep).length ≤ tot l sep := by
    have := joinOf_size sep l
    exact this
  rw [if_pos ⟨by omega, by omega⟩]
  rfl

def Ints64 (l : List Int) : Prop := ∀ x ∈ l, -9223372036854775808 ≤ x ∧ x ≤ 9223372036854775807
theorem tot_ints (sep : ByteArray) (hs : sep.size = 1) : ∀ (l : List Int), Ints64 l → tot (l.map itoaB) sep ≤ 21 * l.length
  | [], _ => by simp [tot]
  | x :: l, h => by
    have h1 := tot_ints sep hs l (fun y hy => h y (List.mem_cons_of_mem _ hy))
    have h2 := h x List.mem_cons_self
    have h3 := itoaB_size h2.1 h2.2
    simp only [List.map_cons, tot, List.length_cons]
    omega
theorem impl_ints_l0 (sep : ByteArray) (hs : sep.size = 1) (l : List Int) (hl : l.length ≤ 1048576) (h : Ints64 l) : ∀ (suf pre : List Int), l = pre ++ suf → Ev (fun k => impl_joinInts.l0 k sep (pre.map itoaB) l (l.length : Int) (pre.length : Int)) (joinOf (l.map itoaB) sep)
  | [], pre, e => by
    refine ev_up ?_
    have e2 : l = pre := by simpa using e
    subst e2
    have := tot_ints sep hs l h
    simp only [impl_joinInts.l0, if_neg (show ¬ ((l.length : Int) < l.length) by omega), impl_join sep (l.map itoaB) (by rw [List.length_map]; omega) (by omega), Option.bind_some]
    exact Ev.now _
  | x :: suf, pre, e => by
    refine ev_up ?_
    have hlen : l.length = pre.length + suf.length + 1 := by rw [e]; simp; omega
    have hx : rd l (pre.length : Int) = x := by rw [e]; exact rd_mid _ _ _
    have hxm := h x (by rw [e]; simp)
    have hw : wrap64 ((pre.length : Int) + 1) = ((pre ++ [x]).length : Int) := by rw [pw_wrap (by omega) (by omega)]; simp
    have ih := impl_ints_l0 sep hs l hl h suf (pre ++ [x]) (by simp [e])
    simp only [impl_joinInts.l0, if_pos (show ((pre.length : Int) < l.length) by omega), if_pos (show (0 ≤ (pre.length : Int)) by omega), hx, hw, impl_fmtint hxm.1 hxm.2, Option.bind_some]
    refine Ev.congr (f := fun k => _) (fun k => if_pos (by rw [List.length_map]; omega)) ?_
    rw [List.map_append] at ih
    exact ih
theorem impl_ints (sep : ByteArray) (hs : sep.size = 1) (l : List Int) (hl : l.length ≤ 1048576) (h : Ints64 l) : Ev (fun k => impl_joinInts.f k l sep) (joinOf (l.map itoaB) sep) := by
  unfold impl_joinInts.f
  exact impl_ints_l0 sep hs l hl h l [] rfl
/-! The angles, the stratum, the genus. -/
def lensL (cs : List (List Int)) : List Int := cs.map fun c => (c.length : Int)
def anglesS (r u : List Int) : List Int := sortD (lensL (cornersL r u))
theorem corners_small (r u : List Int) : (∀ c ∈ cornersL r u, GoodC c) ∧ (cornersL r u).length ≤ 24 := by
  unfold cornersL
  split
  · exact cyclesOf_bd _
  · simp
theorem lens_small (r u : List Int) : (∀ x ∈ lensL (cornersL r u), 0 ≤ x ∧ x ≤ 24) ∧ (lensL (cornersL r u)).length ≤ 24 := by
  have h := corners_small r u
  refine ⟨fun x hx => ?_, by simpa [lensL] using h.2⟩
  obtain ⟨c, hc, rfl⟩ := List.mem_map.1 hx
  have := (h.1 c hc).2
  omega
theorem angles_small (r u : List Int) : (∀ x ∈ anglesS r u, 0 ≤ x ∧ x ≤ 24) ∧ (anglesS r u).length ≤ 24 := by
  have h := lens_small r u
  have hp := sortD_perm (lensL (cornersL r u))
  exact ⟨fun x hx => h.1 x (hp.subset hx), by have := hp.length_eq; unfold anglesS; omega⟩
theorem rdL_midA (pre suf : List (List Int)) (x : List Int) : rd_L2 (pre ++ x :: suf) (pre.length : Int) = x := by simp [rd_L2, List.getD]
theorem impl_angles_l0 (cs : List (List Int)) (hl : cs.length ≤ 1000) (hc : ∀ c ∈ cs, GoodC c) : ∀ (suf pre : List (List Int)), cs = pre ++ suf → Ev (fun k => impl_AnglesOf.l0 k (lensL pre) cs (cs.length : Int) (pre.length : Int)) (sortD (lensL cs))
  | [], pre, e => by
    have e2 : cs = pre := by simpa using e
    subst e2
    refine ev_up ?_
    have hs : slices_SortFunc_int_int.f (lensL cs) = some (sortD (lensL cs)) := by
      unfold slices_SortFunc_int_int.f
      rw [if_pos]
      · rfl
      · refine ⟨fun x hx => ?_, by simp [lensL]; omega⟩
        obtain ⟨c, hcm, rfl⟩ := List.mem_map.1 hx
        have := (hc c hcm).2
        omega
    simp only [impl_AnglesOf.l0, if_neg (show ¬ ((cs.length : Int) < cs.length) by omega), hs, Option.bind_some]
    exact Ev.now _
  | c :: suf, pre, e => by
    have hlen : cs.length = pre.length + suf.length + 1 := by rw [e]; simp; omega
    have hx : rd_L2 cs (pre.length : Int) = c := by rw [e]; exact rdL_midA _ _ _
    have hw : wrap64 ((pre.length : Int) + 1) = ((pre ++ [c]).length : Int) := by rw [pw_wrap (by omega) (by omega)]; simp
    have ih := impl_angles_l0 cs hl hc suf (pre ++ [c]) (by simp [e])
    have hm : lensL (pre ++ [c]) = lensL pre ++ [(c.length : Int)] := by simp [lensL]
    rw [hm] at ih
    refine ev_up ?_
    simp only [impl_AnglesOf.l0, if_pos (show ((pre.length : Int) < cs.length) by omega), if_pos (Int.natCast_nonneg pre.length), hx, hw, if_pos (show (lensL pre).length < 17592186044416 by simp [lensL]; omega)]
    exact ih
theorem impl_angles (r u : List Int) : Ev (fun k => impl_AnglesOf.f k r u) (anglesS r u) := by
  have h := corners_small r u
  unfold impl_AnglesOf.f anglesS
  refine Ev.bind (impl_corners r u) ?_
  exact impl_angles_l0 (cornersL r u) (by omega) h.1 _ [] rfl
def strat (l : List Int) : List Int := l.flatMap fun x => if x > 1 then [x - 1] else []
def stratumS (r u : List Int) : List Int := strat (anglesS r u)
theorem strat_len : ∀ l : List Int, (strat l).length ≤ l.length
  | [] => by simp [strat]
  | x :: l => by
    have := strat_len l
    unfold strat at *
    rw [List.flatMap_cons, List.length_append]
    have h : (if x > 1 then [x - 1] else []).length ≤ 1 := by split <;> simp
    simp only [List.length_cons]
    omega
theorem strat_in {l : List Int} (h : ∀ x ∈ l, 0 ≤ x ∧ x ≤ 24) : ∀ x ∈ strat l, 0 ≤ x ∧ x ≤ 24 := fun x hx => by
  obtain ⟨y, hy, hxy⟩ := List.mem_flatMap.1 hx
  have := h y hy
  split at hxy
  · simp at hxy
    omega
  · simp at hxy
theorem stratum_ints (r u : List Int) : Ints64 (stratumS r u) ∧ (stratumS r u).length ≤ 24 := by
  have h := angles_small r u
  refine ⟨fun x hx => by have := strat_in h.1 x hx; omega, Nat.le_trans (strat_len _) h.2⟩
theorem angles_ints (r u : List Int) : Ints64 (anglesS r u) ∧ (anglesS r u).length ≤ 24 := by
  have h := angles_small r u
  exact ⟨fun x hx => by have := h.1 x hx; omega, h.2⟩
theorem impl_strat_l0 (l : List Int) (hl : l.length ≤ 1000) (hb : ∀ x ∈ l, 0 ≤ x ∧ x ≤ 24) : ∀ (suf pre : List Int), l = pre ++ suf → Ev (fun k => impl_StratumOf.l0 k (strat pre) l (l.length : Int) (pre.length : Int)) (strat l)
  | [], pre, e => by
    have e2 : l = pre := by simpa using e
    subst e2
    refine ev_up ?_
    simp only [impl_StratumOf.l0, if_neg (show ¬ ((l.length : Int) < l.length) by omega)]
    exact Ev.now _
  | x :: suf, pre, e => by
    have hlen : l.length = pre.length + suf.length + 1 := by rw [e]; simp; omega
    have hx : rd l (pre.length : Int) = x := by rw [e]; exact rd_mid _ _ _
    have hw : wrap64 ((pre.length : Int) + 1) = ((pre ++ [x]).length : Int) := by rw [pw_wrap (by omega) (by omega)]; simp
    have hs := strat_len pre
    have hxb := hb x (by rw [e]; simp)
    have ih := impl_strat_l0 l hl hb suf (pre ++ [x]) (by simp [e])
    have hm : strat (pre ++ [x]) = strat pre ++ (if x > 1 then [x - 1] else []) := by simp [strat]
    rw [hm] at ih
    refine ev_up ?_
    simp only [impl_StratumOf.l0, if_pos (show ((pre.length : Int) < l.length) by omega), if_pos (Int.natCast_nonneg pre.length), hx, hw, if_pos (show (strat pre).length < 17592186044416 by omega), pw_wrap (a := x - 1) (by omega) (by omega)]
    by_cases c : x > 1
    · simp only [if_pos c] at ih ⊢
      exact ih
    · simp only [if_neg c, List.append_nil] at ih ⊢
      exact ih
theorem impl_stratum (r u : List Int) : Ev (fun k => impl_StratumOf.f k r u) (stratumS r u) := by
  have h := angles_small r u
  unfold impl_StratumOf.f
  refine Ev.bind (impl_angles r u) ?_
  exact impl_strat_l0 _ (by omega) h.1 _ [] rfl
def squaresS (r u : List Int) : Int := if transB r u = true then (r.length : Int) else 0
theorem impl_squares (r u : List Int) : Ev (fun k => impl_CountSquares.f k r u) (squaresS r u) := by
  unfold impl_CountSquares.f squaresS
  refine Ev.bind (impl_surfOk r u) ?_
  by_cases h : transB r u = true
  · simp only [if_pos h]; exact Ev.now _
  · simp only [if_neg h]; exact Ev.now _
def genusS (r u : List Int) : Int := if transB r u = true then wrap64 (1 + wrap64 (Int.tdiv (wrap64 ((r.length : Int) - ((cornersL r u).length : Int))) 2)) else -1
theorem impl_genus (r u : List Int) : Ev (fun k => impl_GenusOf.f k r u) (genusS r u) := by
  unfold impl_GenusOf.f genusS
  refine Ev.bind (impl_surfOk r u) ?_
  by_cases h : transB r u = true
  · simp only [if_pos h]
    have hs : squaresS r u = (r.length : Int) := by unfold squaresS; rw [if_pos h]
    have := impl_squares r u
    rw [hs] at this
    refine Ev.bind this ?_
    refine Ev.bind (impl_corners r u) ?_
    exact Ev.now _
  · simp only [if_neg h]; exact Ev.now _
theorem genus_in (r u : List Int) : -9223372036854775808 ≤ genusS r u ∧ genusS r u ≤ 9223372036854775807 := by
  unfold genusS
  split
  · unfold wrap64; omega
  · omega

def surfT (r u : List Int) : ByteArray := if transB r u = true then joinOf (r.map itoaB) ⟨#[44]⟩ ++ (⟨#[124]⟩ : ByteArray) ++ joinOf (u.map itoaB) ⟨#[44]⟩ else ⟨#[]⟩
theorem perm_ints {p : List Int} (h : isPerm p) : Ints64 p := fun x hx => by have := h.2.1 x hx; have := h.1; omega
theorem perm_text {p : List Int} (h : isPerm p) (sep : ByteArray) (hs : sep.size = 1) : (joinOf (p.map itoaB) sep).size ≤ 504 := by
  have := joinOf_size sep (p.map itoaB)
  have := tot_ints sep hs p (perm_ints h)
  have := h.1
  omega
theorem surf_sz {r u : List Int} (h : transB r u = true) : (joinOf (r.map itoaB) ⟨#[44]⟩).size ≤ 504 ∧ (joinOf (u.map itoaB) ⟨#[44]⟩).size ≤ 504 ∧ (joinOf (r.map itoaB) ⟨#[44]⟩ ++ (⟨#[124]⟩ : ByteArray)).size + (joinOf (u.map itoaB) ⟨#[44]⟩).size ≤ 1009 := by
  obtain ⟨hr, hu, _⟩ := transB_side h
  have a := perm_text hr ⟨#[44]⟩ rfl
  have b := perm_text hu ⟨#[44]⟩ rfl
  have e : (⟨#[124]⟩ : ByteArray).size = 1 := rfl
  rw [ByteArray.size_append, e]
  omega
theorem impl_fmtsurf (r u : List Int) : Ev (fun k => impl_FormatSurface.f k r u) (surfT r u) := by
  unfold impl_FormatSurface.f surfT
  refine Ev.bind (impl_surfOk r u) ?_
  by_cases h : transB r u = true
  · obtain ⟨hr, hu, _⟩ := transB_side h
    obtain ⟨s1, s2, s3⟩ := surf_sz h
    simp only [if_pos h]
    refine Ev.bind (impl_ints _ rfl r (by have := hr.1; omega) (perm_ints hr)) ?_
    refine Ev.congr (f := fun k => _) (fun k => if_pos (by omega)) ?_
    refine Ev.bind (impl_ints _ rfl u (by have := hu.1; omega) (perm_ints hu)) ?_
    exact Ev.congr (fun k => if_pos (by omega)) (Ev.now _)
  · simp only [if_neg h]
    exact Ev.now _

def listT (l : List Int) : ByteArray := if (l.length : Int) = 0 then ⟨#[45]⟩ else joinOf (l.map itoaB) ⟨#[44]⟩
theorem impl_list (l : List Int) (hl : l.length ≤ 1048576) (h : Ints64 l) : Ev (fun k => impl_FormatList.f k l) (listT l) := by
  unfold impl_FormatList.f listT
  by_cases h0 : (l.length : Int) = 0
  · simp only [if_pos h0]
    exact Ev.now _
  · simp only [if_neg h0]
    exact Ev.bind (impl_ints _ rfl l hl h) (Ev.now _)
theorem listT_size (l : List Int) (h : Ints64 l) : (listT l).size ≤ 21 * l.length + 1 := by
  unfold listT
  split
  · rw [show (⟨#[45]⟩ : ByteArray).size = 1 from rfl]
    omega
  · have := joinOf_size ⟨#[44]⟩ (l.map itoaB)
    have := tot_ints ⟨#[44]⟩ rfl l h
    omega

theorem and255 (x : Int) : 0 ≤ Go.bits .and .i64 x 255 ∧ Go.bits .and .i64 x 255 ≤ 255 := by
  have h : (BitVec.ofInt 64 x &&& BitVec.ofInt 64 255).toNat ≤ 255 := by
    rw [BitVec.toNat_and]
    exact Nat.le_trans Nat.and_le_right (by decide)
  show 0 ≤ IntKind.i64.wrap ((BitVec.ofInt 64 x &&& BitVec.ofInt 64 255).toNat : Int) ∧ IntKind.i64.wrap ((BitVec.ofInt 64 x &&& BitVec.ofInt 64 255).toNat : Int) ≤ 255
  generalize (BitVec.ofInt 64 x &&& BitVec.ofInt 64 255).toNat = n at *
  rw [IntKind.wrap_i64]
  omega
theorem byte_some (l : List Int) (hl : l.length ≤ 4611686018427387904) (i h : Int) (hi : 0 ≤ i) : ∃ v i' h', spec_l01Byte.f l i h = some (v, i', h') ∧ 0 ≤ v ∧ v ≤ 255 ∧ 0 ≤ i' := by
  unfold spec_l01Byte.f
  by_cases h1 : i < (l.length : Int)
  · simp only [if_pos h1, if_pos hi]
    exact ⟨_, _, _, rfl, (and255 _).1, (and255 _).2, by rw [pw_wrap (by omega) (by omega)]; omega⟩
  · simp only [if_neg h1]
    exact ⟨_, _, _, rfl, (and255 _).1, (and255 _).2, hi⟩
theorem below_some (l : List Int) (hl : l.length ≤ 4611686018427387904) (i h : Int) (hi : 0 ≤ i) (n : Int) (h1 : 1 ≤ n) (h2 : n ≤ 256) : ∃ v i' h', spec_l01Below.f l i h n = some (v, i', h') ∧ 0 ≤ v ∧ v < n ∧ 0 ≤ i' := by
  obtain ⟨v, i', h', e, v0, v1, hi'⟩ := byte_some l hl i h hi
  unfold spec_l01Below.f
  simp only [if_neg (show ¬ n ≤ 0 by omega), if_pos h2, e, Option.bind_some, if_neg (show ¬ n = 0 by omega)]
  refine ⟨_, _, _, rfl, ?_, ?_, hi'⟩
  · exact Int.tmod_nonneg _ v0
  · rw [Int.tmod_eq_emod_of_nonneg v0]
    exact Int.emod_lt_of_pos _ (by omega)
theorem new_l0 (l : List Int) (hl : l.length ≤ 4611686018427387904) : ∀ (d : Nat) (x i : Int), 0 ≤ i → i + d = 4000 → ∃ h, Ev (fun k => spec_l01New.l0 k l x i) (l, 0, h)
  | 0, x, i, h0, h1 => by
    by_cases h : i < (l.length : Int)
    · refine ⟨x, ev_up ?_⟩
      simp only [spec_l01New.l0, if_pos h, if_neg (show ¬ i < 4000 by omega)]
      exact Ev.now _
    · refine ⟨x, ev_up ?_⟩
      simp only [spec_l01New.l0, if_neg h]
      exact Ev.now _
  | d + 1, x, i, h0, h1 => by
    by_cases h : i < (l.length : Int)
    · obtain ⟨r, hr⟩ := new_l0 l hl d (Go.bits .and .i64 (wrap64 ((wrap64 ((wrap64 (x * 109)) + (wrap64 (rd l i)))) + 7)) 1073741823) (i + 1) (by omega) (by omega)
      refine ⟨r, ev_up ?_⟩
      simp only [spec_l01New.l0, if_pos h, if_pos (show i < 4000 by omega), if_pos h0, pw_wrap (a := i + 1) (by omega) (by omega)]
      exact hr
    · refine ⟨x, ev_up ?_⟩
      simp only [spec_l01New.l0, if_neg h]
      exact Ev.now _
theorem new_some (l : List Int) (hl : l.length ≤ 4611686018427387904) : ∃ h, Ev (fun k => spec_l01New.f k l) (l, 0, h) := by
  unfold spec_l01New.f
  exact new_l0 l hl 4000 _ 0 (by omega) (by omega)
/-! The surface that is drawn is one. -/
def torusP (w h : Nat) : List Int × List Int := ((List.range (w * h)).map fun i => ((i / w * w + (i % w + 1) % w : Nat) : Int), (List.range (w * h)).map fun i => (((i + w) % (w * h) : Nat) : Int))
def ellP (a b : Nat) : List Int × List Int := ((List.range (a + b - 1)).map fun i => if i < a then (((i + 1) % a : Nat) : Int) else (i : Int), (List.range (a + b - 1)).map fun i => if 1 < b then (if i = 0 then (a : Int) else if a ≤ i then (((i + 1) % (a + b - 1) : Nat) : Int) else (i : Int)) else (i : Int))
def shearP (s : List Int × List Int) : List Int × List Int := (s.1, thenL (invL s.1) s.2)
def sheared : Nat → List Int × List Int → List Int × List Int
  | 0, s => s
  | c + 1, s => sheared c (shearP s)
theorem torus_all : ((List.range 4).all fun w => (List.range 3).all fun h => (List.range 4).all fun c => transB (sheared c (torusP (w + 1) (h + 1))).1 (sheared c (torusP (w + 1) (h + 1))).2) = true := by kernel_rfl
theorem ell_all : ((List.range 5).all fun a => (List.range 4).all fun b => transB (ellP (a + 1) (b + 1)).1 (ellP (a + 1) (b + 1)).2) = true := by kernel_rfl
theorem torus_ok {w h c : Nat} (hw : w < 4) (hh : h < 3) (hc : c < 4) : transB (sheared c (torusP (w + 1) (h + 1))).1 (sheared c (torusP (w + 1) (h + 1))).2 = true := by
  have := List.all_eq_true.1 torus_all w (List.mem_range.2 hw)
  have := List.all_eq_true.1 this h (List.mem_range.2 hh)
  exact List.all_eq_true.1 this c (List.mem_range.2 hc)
theorem ell_ok {a b : Nat} (ha : a < 5) (hb : b < 4) : transB (ellP (a + 1) (b + 1)).1 (ellP (a + 1) (b + 1)).2 = true := by
  have := List.all_eq_true.1 ell_all a (List.mem_range.2 ha)
  exact List.all_eq_true.1 this b (List.mem_range.2 hb)
theorem ev_from {α : Type} {f : Nat → Option α} {v : α} (n : Nat) (h : ∀ j, f (j + n) = some v) : Ev f v := ⟨n, fun k hk => by
  obtain ⟨j, rfl⟩ : ∃ j, k = j + n := ⟨k - n, by omega⟩
  exact h j⟩
theorem torus_ev {w h : Nat} (hw : w < 4) (hh : h < 3) : Ev (fun k => spec_TorusOf.f k ((w + 1 : Nat) : Int) ((h + 1 : Nat) : Int)) ((torusP (w + 1) (h + 1)).1, (torusP (w + 1) (h + 1)).2, true) := by
  refine ev_from 20 fun j => ?_
  rcases (by omega : w = 0 ∨ w = 1 ∨ w = 2 ∨ w = 3) with rfl | rfl | rfl | rfl <;> rcases (by omega : h = 0 ∨ h = 1 ∨ h = 2) with rfl | rfl | rfl <;> kernel_rfl
theorem ell_ev {a b : Nat} (ha : a < 5) (hb : b < 4) : Ev (fun k => spec_EllOf.f k ((a + 1 : Nat) : Int) ((b + 1 : Nat) : Int)) ((ellP (a + 1) (b + 1)).1, (ellP (a + 1) (b + 1)).2, true) := by
  refine ev_from 20 fun j => ?_
  rcases (by omega : a = 0 ∨ a = 1 ∨ a = 2 ∨ a = 3 ∨ a = 4) with rfl | rfl | rfl | rfl | rfl <;> rcases (by omega : b = 0 ∨ b = 1 ∨ b = 2 ∨ b = 3) with rfl | rfl | rfl | rfl <;> kernel_rfl
theorem shear_ev {s : List Int × List Int} (h : transB s.1 s.2 = true) : Ev (fun k => spec_l05Shear.f k s.1 s.2) (shearP s) := by
  obtain ⟨hr, hu, he, h0, _⟩ := transB_side h
  have hn := hr.1
  have hl := invL_len hr
  unfold spec_l05Shear.f
  simp only [Option.bind_some, List.length_nil, List.nil_append, if_pos (show 0 + s.1.length < 17592186044416 by omega)]
  refine Ev.bind (spec_inv hr) ?_
  refine Ev.bind (spec_thn (inv_perm hr) (by omega)) ?_
  exact Ev.now _
theorem sheared_ev : ∀ (c : Nat) (s : List Int × List Int), (∀ d, d ≤ c → transB (sheared d s).1 (sheared d s).2 = true) → c < 1000 → Ev (fun k => spec_MakeSurface.l0 k (c : Int) s.1 s.2) (sheared c s)
  | 0, s, h, _ => by
    refine ev_up ?_
    simp only [spec_MakeSurface.l0, if_neg (show ¬ ((0 : Nat) : Int) > 0 by omega)]
    exact Ev.now _
  | c + 1, s, h, hc => by
    have ih := sheared_ev c (shearP s) (fun d hd => h (d + 1) (by omega)) (by omega)
    refine ev_up ?_
    simp only [spec_MakeSurface.l0, if_pos (show ((c + 1 : Nat) : Int) > 0 by omega)]
    refine Ev.bind (shear_ev (h 0 (by omega))) ?_
    rw [show wrap64 (((c + 1 : Nat) : Int) - 1) = ((c : Nat) : Int) by rw [pw_wrap (by omega) (by omega)]; omega]
    exact ih
theorem drawp_l0 (l : List Int) (hl : l.length ≤ 4611686018427387904) (n : Int) (hn : n ≤ 200) : ∀ (d : Nat) (x i h : Int) (out : List Int), 0 ≤ x → x + d = n → 0 ≤ i → (out.length : Int) = x → ∃ r i' h', Ev (fun k => spec_l02Draw.l0 k n out x l i h) (r, i', h') ∧ 0 ≤ i'
  | 0, x, i, h, out, h0, h1, hi, ho => by
    refine ⟨out, i, h, ev_up ?_, hi⟩
    simp only [spec_l02Draw.l0, if_neg (show ¬ x < n by omega)]
    exact Ev.now _
  | d + 1, x, i, h, out, h0, h1, hi, ho => by
    obtain ⟨v, i1, h1', e, v0, v1, hi1⟩ := below_some l hl i h hi (x + 1) (by omega) (by omega)
    obtain ⟨r, i', h', hr, hi'⟩ := drawp_l0 l hl n hn d (x + 1) i1 h1' (((out ++ [x]).set x.toNat (rd (out ++ [x]) v)).set v.toNat x) (by omega) (by omega) hi1 (by simp; omega)
    refine ⟨r, i', h', ev_up ?_, hi'⟩
    have hlen : ((out ++ [x]).length : Int) = x + 1 := by simp; omega
    simp only [spec_l02Draw.l0, if_pos (show x < n by omega), pw_wrap (a := x + 1) (by omega) (by omega), e, Option.bind_some, if_pos (show out.length < 17592186044416 by omega), if_pos v0, if_pos (show v < ((out ++ [x]).length : Int) by omega), if_pos h0, if_pos (show x < ((out ++ [x]).length : Int) by omega)]
    exact hr
theorem draw_some (l : List Int) (hl : l.length ≤ 4611686018427387904) (n : Int) (h0 : 0 ≤ n) (hn : n ≤ 200) (i h : Int) (hi : 0 ≤ i) : ∃ r i' h', Ev (fun k => spec_l02Draw.f k l i h n) (r, i', h') ∧ 0 ≤ i' :=
  drawp_l0 l hl n hn n.toNat 0 i h [] (by omega) (by omega) hi rfl
theorem surf_l0 (l : List Int) (hl : l.length ≤ 4611686018427387904) (n : Nat) (hn : n < 5) : ∀ (d : Nat) (x i h : Int), 0 ≤ x → x + d = 8 → 0 ≤ i → ∃ r u i' h', Ev (fun k => spec_l03Draw.l0 k ((n + 1 : Nat) : Int) x l i h) (r, u, i', h') ∧ transB r u = true
  | 0, x, i, h, h0, h1, hi => by
    refine ⟨_, _, i, h, ev_up ?_, ell_ok (b := 0) hn (by omega)⟩
    simp only [spec_l03Draw.l0, if_neg (show ¬ x < 8 by omega)]
    refine Ev.bind (ell_ev (b := 0) hn (by omega)) ?_
    exact Ev.now _
  | d + 1, x, i, h, h0, h1, hi => by
    obtain ⟨r, i1, h1', e1, hi1⟩ := draw_some l hl ((n + 1 : Nat) : Int) (by omega) (by omega) i h hi
    obtain ⟨u, i2, h2', e2, hi2⟩ := draw_some l hl ((n + 1 : Nat) : Int) (by omega) (by omega) i1 h1' hi1
    by_cases ht : transB r u = true
    · refine ⟨r, u, i2, h2', ev_up ?_, ht⟩
      simp only [spec_l03Draw.l0, if_pos (show x < 8 by omega)]
      refine Ev.bind e1 ?_
      refine Ev.bind e2 ?_
      refine Ev.bind (spec_surfOk r u) ?_
      simp only [if_pos ht]
      exact Ev.now _
    · obtain ⟨r', u', i', h', hr, ht'⟩ := surf_l0 l hl n hn d (x + 1) i2 h2' (by omega) (by omega) hi2
      refine ⟨r', u', i', h', ev_up ?_, ht'⟩
      simp only [spec_l03Draw.l0, if_pos (show x < 8 by omega), pw_wrap (a := x + 1) (by omega) (by omega)]
      refine Ev.bind e1 ?_
      refine Ev.bind e2 ?_
      refine Ev.bind (spec_surfOk r u) ?_
      simp only [if_neg ht]
      exact hr
theorem surface_some (l : List Int) (hl : l.length ≤ 4611686018427387904) : ∃ r u, Ev (fun k => spec_MakeSurface.f k l) (r, u) ∧ transB r u = true := by
  obtain ⟨h, e⟩ := new_some l hl
  obtain ⟨v, i1, h1, e1, v0, v1, hi1⟩ := below_some l hl 0 h (Int.le_refl 0) 4 (by omega) (by omega)
  unfold spec_MakeSurface.f
  by_cases c0 : v = 0
  · obtain ⟨a, i2, h2, e2, a0, a1, hi2⟩ := below_some l hl i1 h1 hi1 4 (by omega) (by omega)
    obtain ⟨b, i3, h3, e3, b0, b1, hi3⟩ := below_some l hl i2 h2 hi2 3 (by omega) (by omega)
    obtain ⟨c, i4, h4, e4, c0', c1, hi4⟩ := below_some l hl i3 h3 hi3 4 (by omega) (by omega)
    have ea : (1 + a : Int) = ((a.toNat + 1 : Nat) : Int) := by omega
    have eb : (1 + b : Int) = ((b.toNat + 1 : Nat) : Int) := by omega
    have ec : c = ((c.toNat : Nat) : Int) := by omega
    have wa : wrap64 (1 + a) = 1 + a := pw_wrap (by omega) (by omega)
    have wb : wrap64 (1 + b) = 1 + b := pw_wrap (by omega) (by omega)
    refine ⟨_, _, Ev.bind e ?_, torus_ok (w := a.toNat) (h := b.toNat) (c := c.toNat) (by omega) (by omega) (by omega)⟩
    simp only [e1, Option.bind_some, if_pos c0, e2, e3, e4, wa, wb]
    rw [ea, eb]
    refine Ev.bind (torus_ev (w := a.toNat) (h := b.toNat) (by omega) (by omega)) ?_
    rw [ec]
    exact sheared_ev c.toNat (torusP (a.toNat + 1) (b.toNat + 1)) (fun d hd => torus_ok (by omega) (by omega) (by omega)) (by omega)
  · by_cases c1 : v = 1
    · obtain ⟨a, i2, h2, e2, a0, a1, hi2⟩ := below_some l hl i1 h1 hi1 4 (by omega) (by omega)
      obtain ⟨b, i3, h3, e3, b0, b1, hi3⟩ := below_some l hl i2 h2 hi2 4 (by omega) (by omega)
      have ea : (1 + a : Int) = ((a.toNat + 1 : Nat) : Int) := by omega
      have eb : (1 + b : Int) = ((b.toNat + 1 : Nat) : Int) := by omega
      have wa : wrap64 (1 + a) = 1 + a := pw_wrap (by omega) (by omega)
      have wb : wrap64 (1 + b) = 1 + b := pw_wrap (by omega) (by omega)
      refine ⟨_, _, Ev.bind e ?_, ell_ok (a := a.toNat) (b := b.toNat) (by omega) (by omega)⟩
      simp only [e1, Option.bind_some, if_neg c0, if_pos c1, e2, e3, wa, wb]
      rw [ea, eb]
      refine Ev.bind (ell_ev (a := a.toNat) (b := b.toNat) (by omega) (by omega)) ?_
      exact Ev.now _
    · obtain ⟨a, i2, h2, e2, a0, a1, hi2⟩ := below_some l hl i1 h1 hi1 5 (by omega) (by omega)
      have ea : (1 + a : Int) = ((a.toNat + 1 : Nat) : Int) := by omega
      have wa : wrap64 (1 + a) = 1 + a := pw_wrap (by omega) (by omega)
      obtain ⟨r, u, i', h', hr, ht⟩ := surf_l0 l hl a.toNat (by omega) 8 0 i2 h2 (by omega) (by omega) hi2
      refine ⟨r, u, Ev.bind e ?_, ht⟩
      simp only [e1, Option.bind_some, if_neg c0, if_neg c1]
      unfold spec_l03Draw.f
      simp only [e2, Option.bind_some, wa]
      rw [ea]
      refine Ev.bind hr ?_
      exact Ev.now _

/-! CylindersOf on a surface: some list that is not empty. -/
theorem cycGo_least {p : List Int} (hp : isPerm p) : ∀ (d : Nat) (i : Int) (q : List Int) (out : List (List Int)), 0 ≤ i → i + d = p.length → Few p.length q → q = out.flatten → (∀ y : Int, 0 ≤ y → y < p.length → rd p y ∈ q → y ∈ q) → (∀ c ∈ out, ∀ y ∈ c, rd c 0 ≤ y) → (∀ x : Int, 0 ≤ x → x < i → x ∈ q) →
    ∀ c ∈ cycGo p d i q out, ∀ y ∈ c, rd c 0 ≤ y
  | 0, i, q, out, i0, hi, hq, e, hb, hc, hx => hc
  | d + 1, i, q, out, i0, hi, hq, e, hb, hc, hx => by
    have i1 : i < p.length := by omega
    rw [cycGo]
    by_cases hm : i ∈ q
    · rw [if_pos hm, walkOf_in hq hm]
      exact cycGo_least hp d (i + 1) q out (by omega) (by omega) hq e hb hc (fun x x0 x1 => by
        by_cases ex : x = i
        · exact ex ▸ hm
        · exact hx x x0 (by omega))
    · rw [if_neg hm]
      have hql := few_len hq
      obtain ⟨M, hM, h1, h2, h3⟩ := walkC_cyc hp hb i0 i1 hm (p.length + 1 - q.length) 0 (by simpa [its] using hq) (by simp [its]; omega)
      have hw : walkOf p q i = (q ++ its p i M, its p i M) := by
        unfold walkOf
        have : walkC p (p.length + 1 - q.length) (q ++ its p i 0) (its p i 0) (iter (rd p) 0 i) = walkC p (p.length + 1 - q.length) q [] i := by simp [its, iter]
        rw [← this]
        exact h1
      rw [hw]
      have hr0 : rd (its p i M) 0 = i := by
        have hl : 0 < (its p i M).length := by rw [its_len]; exact hM.2
        unfold rd
        rw [show ((0 : Int)).toNat = 0 from rfl, List.getD_eq_getElem?_getD, List.getElem?_eq_getElem hl, its_get]
        rfl
      refine cycGo_least hp d (i + 1) _ _ (by omega) (by omega) h2 (by simp [e]) (fun y y0 y1 hy => ?_) (fun c hcm => ?_) (fun x x0 x1 => ?_)
      · rcases List.mem_append.1 hy with hy | hy
        · exact List.mem_append_left _ (hb y y0 y1 hy)
        · exact List.mem_append_right _ (its_back hp i0 i1 hM.2 h3 y0 y1 hy)
      · rcases List.mem_append.1 hcm with hcm | hcm
        · exact hc c hcm
        · simp at hcm
          subst hcm
          intro y hy
          rw [hr0]
          have yb := h2.2 y (List.mem_append_right _ hy)
          refine Classical.byContradiction fun hlt => ?_
          have hyq := hx y yb.1 (by omega)
          have hnd := h2.1
          rw [List.nodup_append] at hnd
          exact hnd.2.2 y hyq y hy rfl
      · by_cases ex : x = i
        · subst ex
          exact List.mem_append_right _ (its_mem.2 ⟨0, hM.2, rfl⟩)
        · exact List.mem_append_left _ (hx x x0 (by omega))
theorem cycles_least {p : List Int} (hp : isPerm p) : ∀ c ∈ cyclesOf p, ∀ y ∈ c, rd c 0 ≤ y := by
  unfold cyclesOf
  rw [if_pos ((permB_iff p).2 hp)]
  exact cycGo_least hp p.length 0 [] [] (by omega) (by omega) ⟨by simp, by simp⟩ rfl (by simp) (by simp) (fun x x0 x1 => by omega)
theorem fold_min (m : Int) : ∀ l : List Int, (∀ y ∈ l, m ≤ y) → l.foldl min m = m
  | [], _ => rfl
  | y :: l, h => by
    have h1 := h y List.mem_cons_self
    rw [List.foldl_cons, show min m y = m by omega]
    exact fold_min m l (fun z hz => h z (List.mem_cons_of_mem _ hz))
theorem minOf_first {c : List Int} (hc : 0 < c.length) (h : ∀ y ∈ c, rd c 0 ≤ y) : Go.Lib.minOf c = rd c 0 := by
  cases c with
  | nil => simp at hc
  | cons x xs =>
    have e : rd (x :: xs) 0 = x := rfl
    rw [e] at h ⊢
    exact fold_min x (x :: xs) h
theorem index_l0 (l : List Int) (hl : l.length ≤ 1000) (x : Int) : ∀ (suf pre : List Int), l = pre ++ suf → ∃ r : Int, Ev (fun k => slices_Index_int_int.l0 k l x (l.length : Int) (pre.length : Int)) r ∧ (0 ≤ r ↔ x ∈ suf)
  | [], pre, e => by
    refine ⟨-1, ?_, by simp⟩
    have e2 : l = pre := by simpa using e
    subst e2
    refine ev_up ?_
    simp only [slices_Index_int_int.l0, if_neg (show ¬ ((l.length : Int) < l.length) by omega)]
    exact Ev.now _
  | y :: suf, pre, e => by
    have hlen : l.length = pre.length + suf.length + 1 := by rw [e]; simp; omega
    have hy : rd l (pre.length : Int) = y := by rw [e]; exact rd_mid _ _ _
    by_cases c : x = y
    · refine ⟨(pre.length : Int), ?_, by simp [c]⟩
      refine ev_up ?_
      simp only [slices_Index_int_int.l0, if_pos (show ((pre.length : Int) < l.length) by omega), if_pos (Int.natCast_nonneg pre.length), hy, if_pos c]
      exact Ev.now _
    · obtain ⟨r, h1, h2⟩ := index_l0 l hl x suf (pre ++ [y]) (by simp [e])
      refine ⟨r, ?_, by rw [h2]; simp [c]⟩
      refine ev_up ?_
      simp only [slices_Index_int_int.l0, if_pos (show ((pre.length : Int) < l.length) by omega), if_pos (Int.natCast_nonneg pre.length), hy, if_neg c, wrap_snoc (x := y) (s := suf) (p := pre) (by rw [← e]; omega)]
      exact h1
theorem contains_ev (l : List Int) (hl : l.length ≤ 1000) (x : Int) : Ev (fun k => slices_Contains_int_int.f k l x) (decide (x ∈ l)) := by
  obtain ⟨r, h1, h2⟩ := index_l0 l hl x l [] rfl
  unfold slices_Contains_int_int.f slices_Index_int_int.f
  refine Ev.bind h1 ?_
  rw [show decide (x ∈ l) = decide (r ≥ 0) from decide_eq_decide.2 h2.symm]
  exact Ev.now _
def rowGo (x : Int) : List (List Int) → List Int
  | [] => []
  | c :: cs => if x ∈ c then c else rowGo x cs
theorem rowGo_in (x : Int) : ∀ cs : List (List Int), x ∈ cs.flatten → rowGo x cs ∈ cs
  | [], h => by simp at h
  | c :: cs, h => by
    unfold rowGo
    by_cases hx : x ∈ c
    · rw [if_pos hx]; exact List.mem_cons_self
    · rw [if_neg hx]
      refine List.mem_cons_of_mem _ (rowGo_in x cs ?_)
      simpa [hx] using h
theorem rdL_midR (pre suf : List (List Int)) (x : List Int) : rd_L2 (pre ++ x :: suf) (pre.length : Int) = x := by simp [rd_L2, List.getD]
theorem rowOf_l0 (cs : List (List Int)) (hl : cs.length ≤ 1000) (hc : ∀ c ∈ cs, GoodC c) (x : Int) : ∀ (suf pre : List (List Int)), cs = pre ++ suf → Ev (fun k => impl_rowOf.l0 k x cs (cs.length : Int) (pre.length : Int)) (rowGo x suf)
  | [], pre, e => by
    have e2 : cs = pre := by simpa using e
    subst e2
    refine ev_up ?_
    simp only [impl_rowOf.l0, if_neg (show ¬ ((cs.length : Int) < cs.length) by omega)]
    exact Ev.now _
  | y :: suf, pre, e => by
    have hlen : cs.length = pre.length + suf.length + 1 := by rw [e]; simp; omega
    have hy : rd_L2 cs (pre.length : Int) = y := by rw [e]; exact rdL_midR _ _ _
    have gy := hc y (by rw [e]; simp)
    refine ev_up ?_
    simp only [impl_rowOf.l0, if_pos (show ((pre.length : Int) < cs.length) by omega), if_pos (Int.natCast_nonneg pre.length), hy]
    refine Ev.bind (contains_ev y (by have := gy.2; omega) x) ?_
    unfold rowGo
    by_cases c : x ∈ y
    · simp only [if_pos c, decide_eq_true c, if_true]
      exact Ev.now _
    · simp only [if_neg c, decide_eq_false c, Bool.false_eq_true, if_false, wrap_snoc (x := y) (s := suf) (p := pre) (by rw [← e]; omega)]
      exact rowOf_l0 cs hl hc x suf (pre ++ [y]) (by simp [e])
theorem impl_row (r u : List Int) (x : Int) : Ev (fun k => impl_rowOf.f k r u x) (rowGo x (cyclesOf r)) := by
  have h := cyclesOf_bd r
  unfold impl_rowOf.f
  refine Ev.bind (impl_cycles r) ?_
  exact rowOf_l0 (cyclesOf r) (by omega) h.1 x (cyclesOf r) [] rfl
theorem above_l0 {r u : List Int} (h : transB r u = true) {a : Int} (a0 : 0 ≤ a) (a1 : a < r.length) (row : List Int) (hrow : ∀ y ∈ row, 0 ≤ y ∧ y < r.length) (hl : row.length ≤ 1000) : ∀ (suf pre : List Int), row = pre ++ suf →
    ∃ v : Int, Ev (fun k => impl_RowAbove.l0 k a (aroundL r u) row (row.length : Int) (pre.length : Int) r u) v ∧ (v < 0 ∨ ∃ c ∈ cyclesOf r, v = rd c 0)
  | [], pre, e => by
    obtain ⟨hr, hu, he, _⟩ := transB_side h
    have e2 : row = pre := by simpa using e
    subst e2
    have hua := perm_rd hu a0 (show a < u.length by omega)
    have hcf := cycles_facts hr
    have hin := rowGo_in (rd u a) (cyclesOf r) (hcf.2.1 _ hua.1 (by omega))
    have hne := (hcf.2.2 _ hin).ne
    have hgd := (cyclesOf_bd r).1 _ hin
    refine ⟨rd (rowGo (rd u a) (cyclesOf r)) 0, ?_, .inr ⟨_, hin, rfl⟩⟩
    refine ev_up ?_
    simp only [impl_RowAbove.l0, if_neg (show ¬ ((row.length : Int) < row.length) by omega), if_pos a0, if_pos (show a < (u.length : Int) by omega)]
    refine Ev.bind (impl_row r u _) ?_
    unfold slices_Min_int_int.f
    simp only [if_pos (show 0 < (rowGo (rd u a) (cyclesOf r)).length ∧ (rowGo (rd u a) (cyclesOf r)).length ≤ 1000 from ⟨hne, by have := hgd.2; omega⟩), Option.bind_some, minOf_first hne (cycles_least hr _ hin)]
    exact Ev.now _
  | y :: suf, pre, e => by
    obtain ⟨hr, hu, he, _⟩ := transB_side h
    have hlen : row.length = pre.length + suf.length + 1 := by rw [e]; simp; omega
    have hy : rd row (pre.length : Int) = y := by rw [e]; exact rd_mid _ _ _
    have by_ := hrow y (by rw [e]; simp)
    have hal := (around_perm h).2
    by_cases c : rd (aroundL r u) y = y
    · obtain ⟨v, h1, h2⟩ := above_l0 h a0 a1 row hrow hl suf (pre ++ [y]) (by simp [e])
      refine ⟨v, ?_, h2⟩
      refine ev_up ?_
      simp only [impl_RowAbove.l0, if_pos (show ((pre.length : Int) < row.length) by omega), if_pos (Int.natCast_nonneg pre.length), hy, if_pos by_.1, if_pos (show y < ((aroundL r u).length : Int) by omega), if_pos c, wrap_snoc (x := y) (s := suf) (p := pre) (by rw [← e]; omega)]
      exact h1
    · refine ⟨-1, ?_, .inl (by omega)⟩
      refine ev_up ?_
      simp only [impl_RowAbove.l0, if_pos (show ((pre.length : Int) < row.length) by omega), if_pos (Int.natCast_nonneg pre.length), hy, if_pos by_.1, if_pos (show y < ((aroundL r u).length : Int) by omega), if_neg c]
      exact Ev.now _
theorem above_ev {r u : List Int} (h : transB r u = true) {a : Int} (a0 : 0 ≤ a) (a1 : a < r.length) : ∃ v : Int, Ev (fun k => impl_RowAbove.f k r u a) v ∧ (v < 0 ∨ ∃ c ∈ cyclesOf r, v = rd c 0) := by
  obtain ⟨hr, hu, he, _⟩ := transB_side h
  have hcf := cycles_facts hr
  have hin := rowGo_in a (cyclesOf r) (hcf.2.1 _ a0 a1)
  have hrow : ∀ y ∈ rowGo a (cyclesOf r), 0 ≤ y ∧ y < r.length := fun y hy => hcf.1.2 y (List.mem_flatten.2 ⟨_, hin, hy⟩)
  obtain ⟨v, h1, h2⟩ := above_l0 h a0 a1 _ hrow (by have := ((cyclesOf_bd r).1 _ hin).2; omega) _ [] rfl
  refine ⟨v, ?_, h2⟩
  unfold impl_RowAbove.f
  refine Ev.bind (impl_surfOk r u) ?_
  simp only [if_pos h, if_neg (show ¬ a < 0 by omega), decide_eq_false (show ¬ a ≥ (r.length : Int) by omega)]
  refine ev_up ?_
  simp only [impl_RowAbove.j0, Bool.false_eq_true, if_false]
  refine Ev.bind (impl_around h) ?_
  refine Ev.bind (impl_row r u a) ?_
  exact h1
theorem idxRow_first (v : Int) : ∀ (cs : List (List Int)) (i : Nat), (∃ c ∈ cs, v = rd c 0) → 0 ≤ idxRow v cs i ∧ idxRow v cs i < (i : Int) + cs.length
  | [], _, h => by obtain ⟨c, hc, _⟩ := h; simp at hc
  | y :: cs, i, h => by
    unfold idxRow
    by_cases c : y.headD 0 = v
    · rw [if_pos c]
      simp only [List.length_cons]
      omega
    · rw [if_neg c]
      have := idxRow_first v cs (i + 1) (by
        obtain ⟨d, hd, e⟩ := h
        rcases List.mem_cons.1 hd with rfl | hd
        · exact absurd (by rw [e]; cases d <;> simp [rd]) c
        · exact ⟨d, hd, e⟩)
      simp only [List.length_cons]
      omega
def GI (m : Nat) (g : List Int) : Prop := g.length = m ∧ (∀ j : Int, 0 ≤ j → j < m → 0 ≤ rd g j) ∧ rd g 0 = 0
theorem GI.put {m : Nat} {g : List Int} (h : GI m g) {j v : Int} (j0 : 0 ≤ j) (j1 : j < m) (v0 : 0 ≤ v) (hz : j = 0 → v = 0) : GI m (g.set j.toNat v) := by
  obtain ⟨h1, h2, h3⟩ := h
  refine ⟨by simp [h1], fun l l0 l1 => ?_, ?_⟩
  · by_cases e : l = j
    · subst e
      rw [rdS_same l0 (by omega)]
      exact v0
    · rw [rdS_ne j0 l0 e]
      exact h2 l l0 l1
  · by_cases e : (0 : Int) = j
    · subst e
      rw [rdS_same (by omega) (by omega)]
      exact hz rfl
    · rw [rdS_ne j0 (by omega) e]
      exact h3
def CylOk (c : List S38) : Prop := c ≠ [] ∧ c.length ≤ 24 ∧ ∀ x ∈ c, (-9223372036854775808 ≤ x.f0 ∧ x.f0 ≤ 9223372036854775807) ∧ (-9223372036854775808 ≤ x.f1 ∧ x.f1 ≤ 9223372036854775807)
theorem wrap_in (x : Int) : -9223372036854775808 ≤ wrap64 x ∧ wrap64 x ≤ 9223372036854775807 := by unfold wrap64; omega
/-- A row of the machine's numbers and a height. -/
theorem cyl_l4 (cs : List (List Int)) (g : List Int) (hg : GI cs.length g) (hm : cs.length ≤ 24) (out : List S38) (i : Int) (a : Int) (ho : out.length ≤ 24) (i0 : 0 ≤ i) (i1 : i < cs.length)
    (next : ∀ h : Int, -9223372036854775808 ≤ h ∧ h ≤ 9223372036854775807 → ∃ c, Ev (fun k => impl_CylindersOf.l3 k g (out ++ [⟨a, h⟩]) cs (cs.length : Int) (wrap64 (i + 1))) (c, true) ∧ CylOk c) :
    ∀ (d : Nat) (j h : Int), 0 ≤ j → j + d = cs.length → -9223372036854775808 ≤ h ∧ h ≤ 9223372036854775807 → ∃ c, Ev (fun k => impl_CylindersOf.l4 k g out i cs (cs.length : Int) i g (g.length : Int) j a h) (c, true) ∧ CylOk c
  | 0, j, h, j0, jd, hh => by
    obtain ⟨c, h1, h2⟩ := next h hh
    refine ⟨c, ?_, h2⟩
    refine ev_up ?_
    simp only [impl_CylindersOf.l4, if_neg (show ¬ j < (g.length : Int) by have := hg.1; omega), if_pos (show out.length < 8796093022208 by omega)]
    exact h1
  | d + 1, j, h, j0, jd, hh => by
    have hw : wrap64 (j + 1) = j + 1 := by unfold wrap64; omega
    have hl := hg.1
    by_cases e : rd g j = i
    · obtain ⟨c, h1, h2⟩ := cyl_l4 cs g hg hm out i a ho i0 i1 next d (j + 1) (wrap64 (h + 1)) (by omega) (by omega) (wrap_in _)
      refine ⟨c, ?_, h2⟩
      refine ev_up ?_
      simp only [impl_CylindersOf.l4, if_pos (show j < (g.length : Int) by omega), if_pos j0, if_pos e, hw]
      exact h1
    · obtain ⟨c, h1, h2⟩ := cyl_l4 cs g hg hm out i a ho i0 i1 next d (j + 1) h (by omega) (by omega) hh
      refine ⟨c, ?_, h2⟩
      refine ev_up ?_
      simp only [impl_CylindersOf.l4, if_pos (show j < (g.length : Int) by omega), if_pos j0, if_neg e, hw]
      exact h1
theorem cyl_l3 (cs : List (List Int)) (g : List Int) (hg : GI cs.length g) (hm : cs.length ≤ 24) (hc : ∀ c ∈ cs, GoodC c) : ∀ (d : Nat) (i : Int) (out : List S38), 0 ≤ i → i + d = cs.length → (0 < i → out ≠ []) → (i = 0 → 0 < d) → (out.length : Int) ≤ i →
    (∀ x ∈ out, (-9223372036854775808 ≤ x.f0 ∧ x.f0 ≤ 9223372036854775807) ∧ (-9223372036854775808 ≤ x.f1 ∧ x.f1 ≤ 9223372036854775807)) → ∃ c, Ev (fun k => impl_CylindersOf.l3 k g out cs (cs.length : Int) i) (c, true) ∧ CylOk c
  | 0, i, out, i0, hd, hne, hp, hl, hb => by
    refine ⟨out, ?_, hne (by have := hp; omega), by omega, hb⟩
    refine ev_up ?_
    simp only [impl_CylindersOf.l3, if_neg (show ¬ i < (cs.length : Int) by omega)]
    exact Ev.now _
  | d + 1, i, out, i0, hd, hne, hp, hl, hb => by
    have hw : wrap64 (i + 1) = i + 1 := by unfold wrap64; omega
    have hgl := hg.1
    by_cases e : rd g i = i
    · have hlen : ((rd_L2 cs i).length : Int) ≤ 24 := by
        unfold rd_L2
        rw [List.getD_eq_getElem?_getD]
        cases hz : cs[i.toNat]? with
        | none => simp
        | some y =>
          have := (hc y (List.mem_of_getElem? hz)).2
          simp
          omega
      obtain ⟨c, h1, h2⟩ := cyl_l4 cs g hg hm out i ((rd_L2 cs i).length : Int) (by omega) i0 (by omega) (fun h hh => by
        rw [hw]
        exact cyl_l3 cs g hg hm hc d (i + 1) _ (by omega) (by omega) (fun _ => by simp) (by omega) (by simp; omega) (fun x hx => by
          rcases List.mem_append.1 hx with hx | hx
          · exact hb x hx
          · simp at hx; subst hx; exact ⟨⟨by show _ ≤ ((rd_L2 cs i).length : Int); omega, by show ((rd_L2 cs i).length : Int) ≤ _; omega⟩, hh⟩)) cs.length 0 0 (by omega) (by omega) (by omega)
      refine ⟨c, ?_, h2⟩
      refine ev_up ?_
      simp only [impl_CylindersOf.l3, if_pos (show i < (cs.length : Int) by omega), if_pos i0, if_pos (show i < (g.length : Int) by omega), if_pos e]
      exact h1
    · have hi : 0 < i := by
        refine Classical.byContradiction fun hn => e ?_
        have : i = 0 := by omega
        subst this
        exact hg.2.2
      obtain ⟨c, h1, h2⟩ := cyl_l3 cs g hg hm hc d (i + 1) out (by omega) (by omega) (fun _ => hne hi) (by omega) (by omega) hb
      refine ⟨c, ?_, h2⟩
      refine ev_up ?_
      simp only [impl_CylindersOf.l3, if_pos (show i < (cs.length : Int) by omega), if_pos i0, if_pos (show i < (g.length : Int) by omega), if_neg e, hw]
      exact h1
theorem cyl_l2 (r u : List Int) (cs : List (List Int)) (hm : cs.length ≤ 24) (a b : Int) (a0 : 0 ≤ a) (b0 : 0 ≤ b) (i : Int)
    (next : ∀ g, GI cs.length g → ∃ c, Ev (fun k => impl_CylindersOf.l1 k cs g cs (cs.length : Int) (wrap64 (i + 1)) r u) (c, true) ∧ CylOk c) :
    ∀ (d : Nat) (j : Int) (g : List Int), GI cs.length g → 0 ≤ j → j + d = cs.length → ∃ c, Ev (fun k => impl_CylindersOf.l2 k cs g a b cs (cs.length : Int) i (cs.length : Int) j r u) (c, true) ∧ CylOk c
  | 0, j, g, hg, j0, jd => by
    obtain ⟨c, h1, h2⟩ := next g hg
    refine ⟨c, ?_, h2⟩
    refine ev_up ?_
    simp only [impl_CylindersOf.l2, if_neg (show ¬ j < (cs.length : Int) by omega)]
    exact h1
  | d + 1, j, g, hg, j0, jd => by
    have hw : wrap64 (j + 1) = j + 1 := by unfold wrap64; omega
    have hl := hg.1
    have hmn : 0 ≤ mn a b := by unfold mn; split <;> omega
    by_cases e : rd g j = a
    · have hp : GI cs.length (g.set j.toNat (mn a b)) := hg.put j0 (by omega) hmn (fun z => by
        subst z
        have := hg.2.2
        unfold mn
        split <;> omega)
      obtain ⟨c, h1, h2⟩ := cyl_l2 r u cs hm a b a0 b0 i next d (j + 1) _ hp (by omega) (by omega)
      refine ⟨c, ?_, h2⟩
      refine ev_up ?_
      simp only [impl_CylindersOf.l2, if_pos (show j < (cs.length : Int) by omega), if_pos j0, if_pos (show j < (g.length : Int) by omega), if_pos e, hw]
      exact h1
    · by_cases e2 : rd g j = b
      · have hp : GI cs.length (g.set j.toNat (mn a b)) := hg.put j0 (by omega) hmn (fun z => by
          subst z
          have := hg.2.2
          unfold mn
          split <;> omega)
        obtain ⟨c, h1, h2⟩ := cyl_l2 r u cs hm a b a0 b0 i next d (j + 1) _ hp (by omega) (by omega)
        refine ⟨c, ?_, h2⟩
        refine ev_up ?_
        simp only [impl_CylindersOf.l2, if_pos (show j < (cs.length : Int) by omega), if_pos j0, if_pos (show j < (g.length : Int) by omega), if_neg e, if_pos e2, hw]
        exact h1
      · obtain ⟨c, h1, h2⟩ := cyl_l2 r u cs hm a b a0 b0 i next d (j + 1) g hg (by omega) (by omega)
        refine ⟨c, ?_, h2⟩
        refine ev_up ?_
        simp only [impl_CylindersOf.l2, if_pos (show j < (cs.length : Int) by omega), if_pos j0, if_pos (show j < (g.length : Int) by omega), if_neg e, if_neg e2, hw]
        exact h1
theorem cyl_l1 {r u : List Int} (h : transB r u = true) (hp : 0 < (cyclesOf r).length) : ∀ (d : Nat) (i : Int) (g : List Int), GI (cyclesOf r).length g → 0 ≤ i → i + d = (cyclesOf r).length →
    ∃ c, Ev (fun k => impl_CylindersOf.l1 k (cyclesOf r) g (cyclesOf r) ((cyclesOf r).length : Int) i r u) (c, true) ∧ CylOk c
  | 0, i, g, hg, i0, hd => by
    have hb := cyclesOf_bd r
    obtain ⟨c, h1, h2⟩ := cyl_l3 (cyclesOf r) g hg hb.2 hb.1 (cyclesOf r).length 0 [] (by omega) (by omega) (fun x => absurd x (by omega)) (fun _ => hp) (by simp) (by simp)
    refine ⟨c, ?_, h2⟩
    refine ev_up ?_
    simp only [impl_CylindersOf.l1, if_neg (show ¬ i < ((cyclesOf r).length : Int) by omega)]
    exact h1
  | d + 1, i, g, hg, i0, hd => by
    have hb := cyclesOf_bd r
    have hgl := hg.1
    obtain ⟨hr, hu, he, _⟩ := transB_side h
    have hcf := cycles_facts hr
    have hw : wrap64 (i + 1) = i + 1 := by unfold wrap64; omega
    have hin : rd_L2 (cyclesOf r) i ∈ cyclesOf r := by
      unfold rd_L2
      rw [List.getD_eq_getElem?_getD, List.getElem?_eq_getElem (show i.toNat < (cyclesOf r).length by omega)]
      exact List.getElem_mem _
    have hne := (hcf.2.2 _ hin).ne
    have hh : rd (rd_L2 (cyclesOf r) i) 0 ∈ rd_L2 (cyclesOf r) i := by
      generalize rd_L2 (cyclesOf r) i = z at hne
      cases z with
      | nil => simp at hne
      | cons x xs => exact List.mem_cons_self
    have hhb := hcf.1.2 _ (List.mem_flatten.2 ⟨_, hin, hh⟩)
    obtain ⟨v, v1, v2⟩ := above_ev h hhb.1 hhb.2
    by_cases hv : v < 0
    · obtain ⟨c, h1, h2⟩ := cyl_l1 h hp d (i + 1) g hg (by omega) (by omega)
      refine ⟨c, ?_, h2⟩
      refine ev_up ?_
      simp only [impl_CylindersOf.l1, if_pos (show i < ((cyclesOf r).length : Int) by omega), if_pos i0, if_pos (show 0 < ((rd_L2 (cyclesOf r) i).length : Int) by omega)]
      refine Ev.bind v1 ?_
      simp only [if_pos hv, hw]
      exact h1
    · have hx := idxRow_first v (cyclesOf r) 0 (by rcases v2 with v2 | v2; exact absurd v2 hv; exact v2)
      have hall : (∀ y ∈ cyclesOf r, y ≠ []) ∧ (cyclesOf r).length ≤ 1000 := ⟨fun y hy e => by have := (hcf.2.2 y hy).ne; rw [e] at this; simp at this, by omega⟩
      have ga := hg.2.1 i i0 (by omega)
      have gb := hg.2.1 (idxRow v (cyclesOf r) 0) hx.1 (by omega)
      obtain ⟨c, h1, h2⟩ := cyl_l2 r u (cyclesOf r) hb.2 (rd g i) (rd g (idxRow v (cyclesOf r) 0)) ga gb i (fun g' hg' => by
        rw [hw]
        exact cyl_l1 h hp d (i + 1) g' hg' (by omega) (by omega)) (cyclesOf r).length 0 g hg (by omega) (by omega)
      refine ⟨c, ?_, h2⟩
      refine ev_up ?_
      simp only [impl_CylindersOf.l1, if_pos (show i < ((cyclesOf r).length : Int) by omega), if_pos i0, if_pos (show 0 < ((rd_L2 (cyclesOf r) i).length : Int) by omega)]
      refine Ev.bind v1 ?_
      unfold slices_IndexFunc_int_int.f
      simp only [if_neg hv, if_pos hall, Option.bind_some, if_pos (show i < (g.length : Int) by omega), if_pos hx.1, if_pos (show idxRow v (cyclesOf r) 0 < (g.length : Int) by omega)]
      rw [hgl]
      exact h1
theorem cyl_l0 {r u : List Int} (h : transB r u = true) (hp : 0 < (cyclesOf r).length) : ∀ (d : Nat) (i : Int) (g : List Int), GI (cyclesOf r).length g → 0 ≤ i → i + d = (cyclesOf r).length →
    ∃ c, Ev (fun k => impl_CylindersOf.l0 k (cyclesOf r) g ((cyclesOf r).length : Int) i r u) (c, true) ∧ CylOk c
  | 0, i, g, hg, i0, hd => by
    obtain ⟨c, h1, h2⟩ := cyl_l1 h hp (cyclesOf r).length 0 g hg (by omega) (by omega)
    refine ⟨c, ?_, h2⟩
    refine ev_up ?_
    simp only [impl_CylindersOf.l0, if_neg (show ¬ i < ((cyclesOf r).length : Int) by omega)]
    exact h1
  | d + 1, i, g, hg, i0, hd => by
    have hb := cyclesOf_bd r
    have hw : wrap64 (i + 1) = i + 1 := by unfold wrap64; omega
    have hgl := hg.1
    obtain ⟨c, h1, h2⟩ := cyl_l0 h hp d (i + 1) _ (hg.put i0 (by omega) i0 (fun z => z)) (by omega) (by omega)
    refine ⟨c, ?_, h2⟩
    refine ev_up ?_
    simp only [impl_CylindersOf.l0, if_pos (show i < ((cyclesOf r).length : Int) by omega), if_pos i0, if_pos (show i < (g.length : Int) by omega), hw]
    exact h1
theorem impl_cylinders {r u : List Int} (h : transB r u = true) : ∃ c, Ev (fun k => impl_CylindersOf.f k r u) (c, true) ∧ CylOk c := by
  obtain ⟨hr, hu, he, h0, _⟩ := transB_side h
  have hb := cyclesOf_bd r
  have hp : 0 < (cyclesOf r).length := by
    have := (cycles_facts hr).2.1 0 (by omega) (by omega)
    refine Classical.byContradiction fun hn => ?_
    have e : cyclesOf r = [] := List.eq_nil_of_length_eq_zero (by omega)
    rw [e] at this
    simp at this
  have hg : GI (cyclesOf r).length (List.replicate (((cyclesOf r).length : Int) : Int).toNat 0) := ⟨by simp, fun j j0 j1 => by
    unfold rd
    rw [List.getD_eq_getElem?_getD, List.getElem?_replicate]
    split <;> simp, by
    unfold rd
    rw [List.getD_eq_getElem?_getD, List.getElem?_replicate]
    split <;> simp⟩
  obtain ⟨c, h1, h2⟩ := cyl_l0 h hp (cyclesOf r).length 0 _ hg (by omega) (by omega)
  refine ⟨c, ?_, h2⟩
  unfold impl_CylindersOf.f
  refine Ev.bind (impl_surfOk r u) ?_
  simp only [if_pos h]
  refine Ev.bind (impl_cycles r) ?_
  simp only [if_pos (show 0 ≤ ((cyclesOf r).length : Int) by omega), if_pos (show (((cyclesOf r).length : Int) : Int).toNat ≤ 35184372088832 by omega), Option.bind_some]
  rw [hg.1]
  exact h1

def cylB (a b : Int) : ByteArray := itoaB a ++ (⟨#[120]⟩ : ByteArray) ++ itoaB b
def In64 (x : Int) : Prop := -9223372036854775808 ≤ x ∧ x ≤ 9223372036854775807
theorem cylB_size {a b : Int} (ha : In64 a) (hb : In64 b) : (cylB a b).size ≤ 41 := by
  have za := itoaB_size ha.1 ha.2
  have zb := itoaB_size hb.1 hb.2
  unfold cylB
  rw [ByteArray.size_append, ByteArray.size_append]
  show _ + 1 + _ ≤ _
  omega
theorem impl_fmtcyl {a b : Int} (ha : In64 a) (hb : In64 b) : impl_FormatCylinder.f a b = some (cylB a b) := by
  have za := itoaB_size ha.1 ha.2
  have zb := itoaB_size hb.1 hb.2
  have hz : (itoaB a ++ (⟨#[120]⟩ : ByteArray)).size + (itoaB b).size ≤ 9223372036854775807 := by
    rw [ByteArray.size_append]
    show _ + 1 + _ ≤ _
    omega
  unfold impl_FormatCylinder.f
  simp only [impl_fmtint ha.1 ha.2, impl_fmtint hb.1 hb.2, Option.bind_some, if_pos (show (itoaB a).size + 1 ≤ 9223372036854775807 by omega), if_pos hz]
  rfl

/-! The program's cylinders. -/
theorem rdTC_mid (p s : List S38) (x : S38) : rd_T38 (p ++ x :: s) (p.length : Int) = x := by simp [rd_T38, List.getD]
abbrev Cyl := S38

def Cyls64 (l : List Cyl) : Prop := ∀ x ∈ l, In64 x.f0 ∧ In64 x.f1
def cylT (c : Cyl) : ByteArray := cylB c.f0 c.f1
theorem tot_cyls (sep : ByteArray) (hs : sep.size = 1) : ∀ (l : List Cyl), Cyls64 l → tot (l.map cylT) sep ≤ 42 * l.length
  | [], _ => by simp [tot]
  | x :: l, h => by
    have h1 := tot_cyls sep hs l (fun y hy => h y (List.mem_cons_of_mem _ hy))
    have h2 := h x List.mem_cons_self
    have h3 := cylB_size h2.1 h2.2
    simp only [List.map_cons, tot, List.length_cons, cylT]
    omega
def cylLine (l : List Cyl) : ByteArray := if l = [] then ⟨#[45]⟩ else joinOf (l.map cylT) ⟨#[32]⟩
theorem impl_cylline_l0 (l : List Cyl) (h0 : l ≠ []) (hl : l.length ≤ 1048576) (h : Cyls64 l) : ∀ (suf pre : List Cyl), l = pre ++ suf → Ev (fun k => impl_CylinderLine.l0 k (pre.map cylT) l (l.length : Int) (pre.length : Int)) (cylLine l)
  | [], pre, e => by
    refine ev_up ?_
    have e2 : l = pre := by simpa using e
    subst e2
    have := tot_cyls ⟨#[32]⟩ rfl l h
    simp only [impl_CylinderLine.l0, if_neg (show ¬ ((l.length : Int) < l.length) by omega), cylLine, if_neg h0, impl_join _ (l.map cylT) (by rw [List.length_map]; omega) (show tot (l.map cylT) ⟨#[32]⟩ ≤ 1000000000000 by omega), Option.bind_some]
    exact Ev.now _
  | x :: suf, pre, e => by
    refine ev_up ?_
    have hlen : l.length = pre.length + suf.length + 1 := by rw [e]; simp; omega
    have hx : rd_T38 l (pre.length : Int) = x := by rw [e]; exact rdTC_mid _ _ _
    have hxm := h x (by rw [e]; simp)
    have hw : wrap64 ((pre.length : Int) + 1) = ((pre ++ [x]).length : Int) := by rw [pw_wrap (by omega) (by omega)]; simp
    have ih := impl_cylline_l0 l h0 hl h suf (pre ++ [x]) (by simp [e])
    simp only [impl_CylinderLine.l0, if_pos (show ((pre.length : Int) < l.length) by omega), if_pos (show (0 ≤ (pre.length : Int)) by omega), hx, hw, impl_fmtcyl hxm.1 hxm.2, Option.bind_some]
    refine Ev.congr (f := fun k => _) (fun k => if_pos (by rw [List.length_map]; omega)) ?_
    rw [List.map_append] at ih
    exact ih
theorem impl_cylline (l : List Cyl) (hl : l.length ≤ 1048576) (h : Cyls64 l) : Ev (fun k => impl_CylinderLine.f k l) (cylLine l) := by
  unfold impl_CylinderLine.f
  by_cases h0 : l = []
  · subst h0
    exact Ev.now _
  · have hp : 0 < l.length := List.length_pos_iff.2 h0
    simp only [if_neg (show ¬ (l.length : Int) = 0 by omega)]
    exact impl_cylline_l0 l h0 hl h l [] rfl

def line1 (r u : List Int) : ByteArray := (((⟨#[115, 113, 117, 97, 114, 101, 115, 32]⟩ : ByteArray) ++ itoaB (squaresS r u)) ++ (⟨#[32]⟩ : ByteArray)) ++ surfT r u
def line2 (r u : List Int) : ByteArray := (⟨#[97, 110, 103, 108, 101, 115, 32]⟩ : ByteArray) ++ listT (anglesS r u)
def line3 (r u : List Int) : ByteArray := (((⟨#[103, 101, 110, 117, 115, 32]⟩ : ByteArray) ++ itoaB (genusS r u)) ++ (⟨#[32, 115, 116, 114, 97, 116, 117, 109, 32]⟩ : ByteArray)) ++ listT (stratumS r u)
def line4 (r u : List Int) : ByteArray := (⟨#[115, 121, 109, 109, 101, 116, 114, 105, 101, 115, 32]⟩ : ByteArray) ++ itoaB (symsS r u)
def linesS (r u : List Int) : List ByteArray := if transB r u = true then [line1 r u, line2 r u, line3 r u, line4 r u] else []
theorem squares_in (r u : List Int) (h : transB r u = true) : -9223372036854775808 ≤ squaresS r u ∧ squaresS r u ≤ 9223372036854775807 := by
  obtain ⟨hr, _⟩ := transB_side h
  have := hr.1
  unfold squaresS
  rw [if_pos h]
  omega
theorem surfT_sz {r u : List Int} (h : transB r u = true) : (surfT r u).size ≤ 1009 := by
  unfold surfT
  rw [if_pos h, ByteArray.size_append]
  exact (surf_sz h).2.2
theorem impl_lines (r u : List Int) : Ev (fun k => impl_SurfaceLines.f k r u) (linesS r u) := by
  unfold impl_SurfaceLines.f linesS
  refine Ev.bind (impl_surfOk r u) ?_
  by_cases h : transB r u = true
  · simp only [if_pos h]
    have a1 := squares_in r u h
    have a2 := genus_in r u
    have a3 := syms_in r u
    have b1 := itoaB_size a1.1 a1.2
    have b2 := itoaB_size a2.1 a2.2
    have b3 := itoaB_size a3.1 a3.2
    have c1 := angles_ints r u
    have c2 := stratum_ints r u
    have d1 := listT_size _ c1.1
    have d2 := listT_size _ c2.1
    have f1 := surfT_sz h
    have e1 : (⟨#[115, 113, 117, 97, 114, 101, 115, 32]⟩ : ByteArray).size = 8 := id rfl
    have e2 : (⟨#[32]⟩ : ByteArray).size = 1 := id rfl
    have e3 : (⟨#[103, 101, 110, 117, 115, 32]⟩ : ByteArray).size = 6 := id rfl
    have e4 : (⟨#[32, 115, 116, 114, 97, 116, 117, 109, 32]⟩ : ByteArray).size = 9 := id rfl
    refine Ev.bind (impl_squares r u) ?_
    simp only [impl_fmtint a1.1 a1.2, Option.bind_some]
    refine Ev.congr (f := fun k => _) (fun k => if_pos (by omega)) ?_
    refine Ev.congr (f := fun k => _) (fun k => if_pos (by simp only [ByteArray.size_append, e1]; omega)) ?_
    refine Ev.bind (impl_fmtsurf r u) ?_
    refine Ev.congr (f := fun k => _) (fun k => if_pos (by simp only [ByteArray.size_append, e1, e2]; omega)) ?_
    refine Ev.bind (impl_angles r u) ?_
    refine Ev.bind (impl_list _ (by omega) c1.1) ?_
    refine Ev.congr (f := fun k => _) (fun k => if_pos (by omega)) ?_
    refine Ev.bind (impl_genus r u) ?_
    simp only [impl_fmtint a2.1 a2.2, Option.bind_some]
    refine Ev.congr (f := fun k => _) (fun k => if_pos (by omega)) ?_
    refine Ev.congr (f := fun k => _) (fun k => if_pos (by simp only [ByteArray.size_append, e3]; omega)) ?_
    refine Ev.bind (impl_stratum r u) ?_
    refine Ev.bind (impl_list _ (by omega) c2.1) ?_
    refine Ev.congr (f := fun k => _) (fun k => if_pos (by simp only [ByteArray.size_append, e3, e4]; omega)) ?_
    refine Ev.bind (impl_syms r u) ?_
    simp only [impl_fmtint a3.1 a3.2, Option.bind_some]
    exact Ev.congr (f := fun k => _) (fun k => if_pos (by omega)) (Ev.now _)
  · simp only [if_neg h]
    exact Ev.now _
theorem empty_appB (b : ByteArray) : (⟨#[]⟩ : ByteArray) ++ b = b := by
  apply ByteArray.ext
  simp [ByteArray.data_append]
theorem reports_l0 (c : List Cyl) (h0 : c ≠ []) (hl : c.length ≤ 24) (h : Cyls64 c) : ∀ (suf pre : List Cyl), c = pre ++ suf → Ev (fun k => laws_FnReports.l0 k c (joinOf (pre.map cylT) ⟨#[32]⟩) c (c.length : Int) (pre.length : Int)) true
  | [], pre, e => by
    have e2 : c = pre := by simpa using e
    subst e2
    refine ev_up ?_
    simp only [laws_FnReports.l0, if_neg (show ¬ ((c.length : Int) < c.length) by omega)]
    refine Ev.bind (impl_cylline c (by omega) h) ?_
    have e3 : cylLine c = joinOf (c.map cylT) ⟨#[32]⟩ := by unfold cylLine; rw [if_neg h0]
    rw [e3]
    simp only [if_true]
    refine Ev.bind (impl_cylline [] (by simp) (fun x hx => by simp at hx)) ?_
    have e4 : ((cylLine []).toList == ([45] : List UInt8)) = true := by unfold cylLine; rw [if_pos rfl, toList_eq]; rfl
    rw [e4]
    exact Ev.now _
  | x :: suf, pre, e => by
    have hlen : c.length = pre.length + suf.length + 1 := by rw [e]; simp; omega
    have hx : rd_T38 c (pre.length : Int) = x := by rw [e]; exact rdTC_mid _ _ _
    have hb := h x (by rw [e]; simp)
    have ih := reports_l0 c h0 hl h suf (pre ++ [x]) (by simp [e])
    have s0 := joinOf_size ⟨#[32]⟩ (pre.map cylT)
    have s1 := tot_cyls ⟨#[32]⟩ rfl pre (fun y hy => h y (by rw [e]; exact List.mem_append_left _ hy))
    have s2 := itoaB_size hb.1.1 hb.1.2
    have s3 := itoaB_size hb.2.1 hb.2.2
    have z1 : (⟨#[32]⟩ : ByteArray).size = 1 := id rfl
    have z2 : (⟨#[120]⟩ : ByteArray).size = 1 := id rfl
    refine ev_up ?_
    simp only [laws_FnReports.l0, if_pos (show ((pre.length : Int) < c.length) by omega), if_pos (Int.natCast_nonneg pre.length), hx, impl_fmtint hb.1.1 hb.1.2, impl_fmtint hb.2.1 hb.2.2, Option.bind_some, wrap_snoc (x := x) (s := suf) (p := pre) (by rw [← e]; omega)]
    by_cases hp : pre = []
    · subst hp
      have ex : joinOf (([] ++ [x]).map cylT) ⟨#[32]⟩ = joinOf (([] : List Cyl).map cylT) ⟨#[32]⟩ ++ itoaB x.f0 ++ (⟨#[120]⟩ : ByteArray) ++ itoaB x.f1 := by
        rw [List.nil_append, List.map_cons, List.map_nil, joinOf_one, joinOf_nil, empty_appB]
        rfl
      rw [ex] at ih
      refine Ev.congr (f := fun k => _) (fun k => if_neg (by simp)) ?_
      refine Ev.congr (f := fun k => _) (fun k => if_pos (by omega)) ?_
      refine Ev.congr (f := fun k => _) (fun k => if_pos (by simp only [ByteArray.size_append]; omega)) ?_
      refine Ev.congr (f := fun k => _) (fun k => if_pos (by simp only [ByteArray.size_append, z2]; omega)) ?_
      exact ih
    · have hpp : 0 < pre.length := List.length_pos_iff.mpr hp
      have ex : joinOf ((pre ++ [x]).map cylT) ⟨#[32]⟩ = joinOf (pre.map cylT) ⟨#[32]⟩ ++ (⟨#[32]⟩ : ByteArray) ++ itoaB x.f0 ++ (⟨#[120]⟩ : ByteArray) ++ itoaB x.f1 := by
        rw [List.map_append, List.map_cons, List.map_nil, joinOf_snoc _ _ _ (by simp [hp])]
        unfold cylT cylB
        simp only [app_assocB]
      rw [ex] at ih
      refine Ev.congr (f := fun k => _) (fun k => if_pos (by omega)) ?_
      refine Ev.congr (f := fun k => _) (fun k => if_pos (by omega)) ?_
      refine Ev.congr (f := fun k => _) (fun k => if_pos (by simp only [ByteArray.size_append, z1]; omega)) ?_
      refine Ev.congr (f := fun k => _) (fun k => if_pos (by simp only [ByteArray.size_append, z1]; omega)) ?_
      refine Ev.congr (f := fun k => _) (fun k => if_pos (by simp only [ByteArray.size_append, z1, z2]; omega)) ?_
      exact ih
theorem FnReports : laws_FnReports.Pure := by
  intro l hl hw
  apply Ev.rounds
  unfold laws_FnReports.f
  by_cases hlen : (l.length : Int) > 1048576
  · simp only [if_pos hlen]
    exact Ev.now _
  · simp only [if_neg hlen]
    obtain ⟨r, u, hs, ht⟩ := surface_some l (by omega)
    obtain ⟨c, hc, hok⟩ := impl_cylinders ht
    have hL : linesS r u = [line1 r u, line2 r u, line3 r u, line4 r u] := by unfold linesS; rw [if_pos ht]
    have h4 : ((linesS r u).length : Int) = 4 := by rw [hL]; rfl
    have hq : squaresS r u = (r.length : Int) := by unfold squaresS; rw [if_pos ht]
    have a1 := squares_in r u ht
    rw [hq] at a1
    have a3 := syms_in r u
    have b1 := itoaB_size a1.1 a1.2
    have b3 := itoaB_size a3.1 a3.2
    have c1 := angles_ints r u
    have d1 := listT_size _ c1.1
    have f1 := surfT_sz ht
    have e1 : (⟨#[115, 113, 117, 97, 114, 101, 115, 32]⟩ : ByteArray).size = 8 := id rfl
    have e2 : (⟨#[32]⟩ : ByteArray).size = 1 := id rfl
    have r0 : rdOf ByteArray.empty (linesS r u) 0 = (((⟨#[115, 113, 117, 97, 114, 101, 115, 32]⟩ : ByteArray) ++ itoaB (r.length : Int)) ++ (⟨#[32]⟩ : ByteArray)) ++ surfT r u := by rw [hL, ← hq]; rfl
    have r1 : rdOf ByteArray.empty (linesS r u) 1 = (⟨#[97, 110, 103, 108, 101, 115, 32]⟩ : ByteArray) ++ listT (anglesS r u) := by rw [hL]; rfl
    have r3 : rdOf ByteArray.empty (linesS r u) 3 = (⟨#[115, 121, 109, 109, 101, 116, 114, 105, 101, 115, 32]⟩ : ByteArray) ++ itoaB (symsS r u) := by rw [hL]; rfl
    have ne3 : ((rdOf ByteArray.empty (linesS r u) 3).toList != ((⟨#[115, 121, 109, 109, 101, 116, 114, 105, 101, 115, 32]⟩ : ByteArray) ++ itoaB (symsS r u)).toList) = false := by rw [r3]; simp
    refine Ev.bind hs ?_
    refine Ev.bind (impl_lines r u) ?_
    refine Ev.bind hc ?_
    simp only [if_true, if_pos h4, if_pos (show 0 < ((linesS r u).length : Int) by omega), impl_fmtint a1.1 a1.2, Option.bind_some]
    refine Ev.congr (f := fun k => _) (fun k => if_pos (by omega)) ?_
    refine Ev.congr (f := fun k => _) (fun k => if_pos (by simp only [ByteArray.size_append, e1]; omega)) ?_
    refine Ev.bind (impl_fmtsurf r u) ?_
    refine Ev.congr (f := fun k => _) (fun k => if_pos (by simp only [ByteArray.size_append, e1, e2]; omega)) ?_
    refine Ev.congr (f := fun k => _) (fun k => if_pos (by rw [r0])) ?_
    refine Ev.congr (f := fun k => _) (fun k => if_pos (by omega)) ?_
    refine Ev.bind (impl_angles r u) ?_
    refine Ev.bind (impl_list _ (by omega) c1.1) ?_
    refine Ev.congr (f := fun k => _) (fun k => if_pos (by omega)) ?_
    refine Ev.congr (f := fun k => _) (fun k => if_pos (by rw [r1])) ?_
    refine Ev.congr (f := fun k => _) (fun k => if_pos (by omega)) ?_
    refine Ev.bind (impl_syms r u) ?_
    simp only [impl_fmtint a3.1 a3.2, Option.bind_some]
    refine Ev.congr (f := fun k => _) (fun k => if_pos (by omega)) ?_
    rw [ne3]
    refine ev_up ?_
    simp only [laws_FnReports.j0, Bool.false_eq_true, if_false]
    have key := reports_l0 c hok.1 hok.2.1 (fun x hx => hok.2.2 x hx) c [] rfl
    rw [List.map_nil, joinOf_nil] at key
    exact key

end Go.Proofs.YthhdgeafdnikcaaGreatDoor.Pure
