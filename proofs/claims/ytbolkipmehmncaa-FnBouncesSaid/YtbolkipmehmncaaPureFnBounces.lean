/- A path on a table comes back after an even number of reflections at both kinds of sides: for all codes. -/
import Derived.Test.YtbolkipmehmncaaSayFnBounces
namespace Go.Proofs.Ytbolkipmehmncaa.Pure
open Go.RowKit Go.Proofs.Ytbolkipmehmncaa.S Go.Proofs.YtbolkipmehmncaaW.PrintWords Go.Proofs.YtbolkipmehmncaaW.PrintLast
set_option linter.unusedVariables false
set_option linter.unusedSimpArgs false

theorem ev_up {α : Type} {g : Nat → Option α} {r : α} (h : Ev (fun k => g (k + 1)) r) : Ev g r := Ev.step (fun _ => rfl) h
theorem ev_k {α : Type} {g : Nat → Option α} {r : α} {n : Nat} (h : ∀ k, n < k → g k = some r) : Ev g r := ⟨n + 1, fun k hk => h k (by omega)⟩

theorem pw_wrap {a : Int} (h0 : -9223372036854775808 ≤ a) (h1 : a ≤ 9223372036854775807) : wrap64 a = a := by
  unfold wrap64
  omega

theorem and255 (x : Int) : 0 ≤ Go.bits .and .i64 x 255 ∧ Go.bits .and .i64 x 255 ≤ 255 := by
  have h : (BitVec.ofInt 64 x &&& BitVec.ofInt 64 255).toNat ≤ 255 := by
    rw [BitVec.toNat_and]
    exact Nat.le_trans Nat.and_le_right (by decide)
  show 0 ≤ IntKind.i64.wrap ((BitVec.ofInt 64 x &&& BitVec.ofInt 64 255).toNat : Int) ∧ IntKind.i64.wrap ((BitVec.ofInt 64 x &&& BitVec.ofInt 64 255).toNat : Int) ≤ 255
  generalize (BitVec.ofInt 64 x &&& BitVec.ofInt 64 255).toNat = n at *
  rw [IntKind.wrap_i64]
  omega
theorem byte_some (l : List Int) (hl : l.length ≤ 4611686018427387904) (i h : Int) (hi : 0 ≤ i) : ∃ v i' h', spec_l01Byte.f l i h = some (v, i', h') ∧ 0 ≤ v ∧ v ≤ 255 ∧ 0 ≤ i' := by
  unfold spec_l01Byte.f
  by_cases h1 : i < (l.length : Int)
  · simp only [if_pos h1, if_pos hi]
    exact ⟨_, _, _, rfl, (and255 _).1, (and255 _).2, by rw [pw_wrap (by omega) (by omega)]; omega⟩
  · simp only [if_neg h1]
    exact ⟨_, _, _, rfl, (and255 _).1, (and255 _).2, hi⟩
theorem below_some (l : List Int) (hl : l.length ≤ 4611686018427387904) (i h : Int) (hi : 0 ≤ i) (n : Int) (h1 : 1 ≤ n) (h2 : n ≤ 256) : ∃ v i' h', spec_l01Below.f l i h n = some (v, i', h') ∧ 0 ≤ v ∧ v < n ∧ 0 ≤ i' := by
  obtain ⟨v, i', h', e, v0, v1, hi'⟩ := byte_some l hl i h hi
  unfold spec_l01Below.f
  simp only [if_neg (show ¬ n ≤ 0 by omega), if_pos h2, e, Option.bind_some, if_neg (show ¬ n = 0 by omega)]
  refine ⟨_, _, _, rfl, ?_, ?_, hi'⟩
  · exact Int.tmod_nonneg _ v0
  · rw [Int.tmod_eq_emod_of_nonneg v0]
    exact Int.emod_lt_of_pos _ (by omega)
theorem new_l0 (l : List Int) (hl : l.length ≤ 4611686018427387904) : ∀ (d : Nat) (x i : Int), 0 ≤ i → i + d = 4000 → ∃ h, Ev (fun k => spec_l01New.l0 k l x i) (l, 0, h)
  | 0, x, i, h0, h1 => by
    by_cases h : i < (l.length : Int)
    · refine ⟨x, ev_up ?_⟩
      simp only [spec_l01New.l0, if_pos h, if_neg (show ¬ i < 4000 by omega)]
      exact Ev.now _
    · refine ⟨x, ev_up ?_⟩
      simp only [spec_l01New.l0, if_neg h]
      exact Ev.now _
  | d + 1, x, i, h0, h1 => by
    by_cases h : i < (l.length : Int)
    · obtain ⟨r, hr⟩ := new_l0 l hl d (Go.bits .and .i64 (wrap64 ((wrap64 ((wrap64 (x * 109)) + (wrap64 (rd l i)))) + 7)) 1073741823) (i + 1) (by omega) (by omega)
      refine ⟨r, ev_up ?_⟩
      simp only [spec_l01New.l0, if_pos h, if_pos (show i < 4000 by omega), if_pos h0, pw_wrap (a := i + 1) (by omega) (by omega)]
      exact hr
    · refine ⟨x, ev_up ?_⟩
      simp only [spec_l01New.l0, if_neg h]
      exact Ev.now _
theorem new_some (l : List Int) (hl : l.length ≤ 4611686018427387904) : ∃ h, Ev (fun k => spec_l01New.f k l) (l, 0, h) := by
  unfold spec_l01New.f
  exact new_l0 l hl 4000 _ 0 (by omega) (by omega)
theorem skip_l0 (l : List Int) (hl : l.length ≤ 4611686018427387904) (n : Int) (hn : n ≤ 1000000) : ∀ (d : Nat) (i s1 s2 : Int), 0 ≤ i → i + d = n → 0 ≤ s1 → ∃ t1 t2, Ev (fun k => spec_l20New.l0 k l n i s1 s2) (l, t1, t2) ∧ 0 ≤ t1
  | 0, i, s1, s2, h0, h1, hs => by
    refine ⟨s1, s2, ev_up ?_, hs⟩
    simp only [spec_l20New.l0, if_neg (show ¬ i < n by omega)]
    exact Ev.now _
  | d + 1, i, s1, s2, h0, h1, hs => by
    obtain ⟨v, t1, t2, e, _, _, ht⟩ := byte_some l hl s1 s2 hs
    obtain ⟨u1, u2, hr, hu⟩ := skip_l0 l hl n hn d (i + 1) t1 t2 (by omega) (by omega) ht
    refine ⟨u1, u2, ev_up ?_, hu⟩
    simp only [spec_l20New.l0, if_pos (show i < n by omega), e, Option.bind_some, pw_wrap (a := i + 1) (by omega) (by omega)]
    exact hr
theorem skip_some (l : List Int) (hl : l.length ≤ 4611686018427387904) (n : Int) (h0 : 0 ≤ n) (hn : n ≤ 1000000) : ∃ t1 t2, Ev (fun k => spec_l20New.f k l n) (l, t1, t2) ∧ 0 ≤ t1 := by
  obtain ⟨h, e⟩ := new_some l hl
  obtain ⟨t1, t2, hr, ht⟩ := skip_l0 l hl n hn n.toNat 0 0 h (by omega) (by omega) (by omega)
  unfold spec_l20New.f
  exact ⟨t1, t2, Ev.bind e hr, ht⟩
theorem num_some (l : List Int) (hl : l.length ≤ 4611686018427387904) (n : Int) (h0 : 0 ≤ n) (hn : n ≤ 1000000) : ∃ v, Ev (fun k => spec_MakeNum.f k l n) v ∧ 0 ≤ v ∧ v ≤ 65535 := by
  obtain ⟨t1, t2, e, ht⟩ := skip_some l hl n h0 hn
  obtain ⟨v, i', h', e2, v0, v1, hi⟩ := byte_some l hl t1 t2 ht
  obtain ⟨u, i2, h2, e3, u0, u1, hi2⟩ := byte_some l hl i' h' hi
  unfold spec_MakeNum.f
  refine ⟨v * 256 + u, Ev.bind e ?_, by omega, by omega⟩
  simp only [e2, e3, Option.bind_some]
  rw [pw_wrap (a := v * 256) (by omega) (by omega), pw_wrap (by omega) (by omega)]
  exact Ev.now _

/-! Lists without a number twice; what is met from a place. -/
theorem nodup_len (n : Nat) : ∀ l : List Int, l.Nodup → (∀ x ∈ l, 0 ≤ x ∧ x < n) → l.length ≤ n := by
  induction n with
  | zero =>
    intro l _ h
    cases l with
    | nil => simp
    | cons x l => have := h x (by simp); omega
  | succ n ih =>
    intro l hn h
    have h2 := ih (l.filter (fun x => x != (n : Int))) (hn.filter _) (fun x hx => by
      have h3 := List.mem_filter.1 hx
      have h4 := h x h3.1
      have h5 : x ≠ (n : Int) := by simpa using h3.2
      omega)
    have h3 : l.length ≤ (l.filter (fun x => x != (n : Int))).length + 1 := by
      clear h h2 ih
      induction l with
      | nil => simp
      | cons y l ihl =>
        have hn2 := List.nodup_cons.1 hn
        by_cases hy : y = (n : Int)
        · have : l.filter (fun x => x != (n : Int)) = l := List.filter_eq_self.2 (fun x hx => by
            have : x ≠ (n : Int) := fun e => hn2.1 (by rw [hy, ← e]; exact hx)
            simpa using this)
          simp [hy, this]
        · have := ihl hn2.2
          simp [hy]
          omega
    omega
def push (q : List Int) (k : Int) : List Int := if 0 ≤ k ∧ k ∉ q then q ++ [k] else q
def pushAll (q : List Int) (ks : List Int) : List Int := ks.foldl push q
/-- Distinct numbers below n. -/
def Few (n : Nat) (q : List Int) : Prop := q.Nodup ∧ ∀ x ∈ q, 0 ≤ x ∧ x < (n : Int)
theorem few_push {n : Nat} {q : List Int} {k : Int} (h : Few n q) (hk : k < n) : Few n (push q k) := by
  unfold push
  split
  · rename_i h2
    refine ⟨?_, fun x hx => ?_⟩
    · rw [List.nodup_append]
      refine ⟨h.1, by simp, ?_⟩
      intro a ha b hb
      simp at hb
      subst hb
      exact fun e => h2.2 (e ▸ ha)
    · rcases List.mem_append.1 hx with hx | hx
      · exact h.2 x hx
      · simp at hx; subst hx; exact ⟨h2.1, hk⟩
  · exact h
theorem push_len (q : List Int) (k : Int) : q.length ≤ (push q k).length := by unfold push; split <;> simp
theorem few_pushAll {n : Nat} : ∀ (ks q : List Int), Few n q → (∀ k ∈ ks, k < n) → Few n (pushAll q ks) ∧ q.length ≤ (pushAll q ks).length
  | [], q, h, _ => ⟨h, Nat.le_refl _⟩
  | k :: ks, q, h, hk => by
    have h1 := few_push h (hk k (by simp))
    have h2 := few_pushAll ks (push q k) h1 (fun x hx => hk x (by simp [hx]))
    exact ⟨h2.1, Nat.le_trans (push_len q k) h2.2⟩
theorem few_len {n : Nat} {q : List Int} (h : Few n q) : q.length ≤ n := nodup_len n q h.1 h.2
/-- The queue behind the places from 'at_' on. -/
def bfs (nb : Int → List Int) : Nat → List Int → Nat → List Int
  | 0, q, _ => q
  | f + 1, q, i => if h : i < q.length then bfs nb f (pushAll q (nb q[i])) (i + 1) else q
theorem bfs_done (nb : Int → List Int) (f : Nat) (q : List Int) (i : Nat) (h : ¬ i < q.length) : bfs nb f q i = q := by
  cases f with
  | zero => rfl
  | succ f => rw [bfs, dif_neg h]
theorem bfs_few {n : Nat} (nb : Int → List Int) (hnb : ∀ x : Int, 0 ≤ x → x < (n : Int) → ∀ k ∈ nb x, k < (n : Int)) : ∀ (f : Nat) (q : List Int) (i : Nat), Few n q → Few n (bfs nb f q i)
  | 0, q, i, h => h
  | f + 1, q, i, h => by
    rw [bfs]
    split
    · rename_i hi
      have := h.2 _ (List.getElem_mem hi)
      exact bfs_few nb hnb f _ _ (few_pushAll (nb q[i]) q h (hnb q[i] this.1 this.2)).1
    · exact h

/-! Small words on lists, read at a place. -/
theorem wrap_snoc {α : Type} {p s : List α} {x : α} (h : (p ++ x :: s).length ≤ 4611686018427387904) : wrap64 ((p.length : Int) + 1) = ((p ++ [x]).length : Int) := by
  simp at h ⊢
  unfold wrap64
  omega
theorem lt_mid {α : Type} (p s : List α) (x : α) : ((p.length : Nat) : Int) < ((p ++ x :: s).length : Int) := by simp; omega
theorem nlt_end {α : Type} (p : List α) : ¬ ((p.length : Nat) : Int) < ((p ++ []).length : Int) := by simp
theorem rd_mid (p s : List Int) (x : Int) : rd (p ++ x :: s) (p.length : Int) = x := by simp [rd, List.getD]
theorem nil_or_snoc {α : Type} (l : List α) : l = [] ∨ ∃ p x, l = p ++ [x] := by
  rcases List.eq_nil_or_concat l with h | ⟨p, x, h⟩
  · exact .inl h
  · exact .inr ⟨p, x, by rw [h]; simp⟩

/-- The place of the first x, or -1. -/
def idxGo (x : Int) : List Int → Int → Int
  | [], _ => -1
  | c :: cs, i => if c = x then i else idxGo x cs (i + 1)
theorem impl_index_l0 (l : List Int) (hl : l.length ≤ 4611686018427387904) (x : Int) : ∀ (suf pre : List Int), l = pre ++ suf →
    Ev (fun k => slices_Index_int_int.l0 k l x (l.length : Int) (pre.length : Int)) (idxGo x suf pre.length) := by
  intro suf
  induction suf with
  | nil =>
    intro pre h
    subst h
    refine ev_up ?_
    simp only [slices_Index_int_int.l0, if_neg (nlt_end pre)]
    exact Ev.now _
  | cons c suf ih =>
    intro pre h
    have := ih (pre ++ [c]) (by simp [h])
    subst h
    refine ev_up ?_
    by_cases hc : c = x
    · simp only [slices_Index_int_int.l0, if_pos (lt_mid pre suf c), if_pos (Int.natCast_nonneg pre.length), rd_mid, if_pos hc.symm]
      rw [idxGo, if_pos hc]
      exact Ev.now _
    · simp only [slices_Index_int_int.l0, if_pos (lt_mid pre suf c), if_pos (Int.natCast_nonneg pre.length), rd_mid, if_neg (Ne.symm hc), wrap_snoc hl]
      rw [idxGo, if_neg hc, show (pre.length : Int) + 1 = ((pre ++ [c]).length : Int) by simp]
      exact this
theorem impl_index (l : List Int) (hl : l.length ≤ 4611686018427387904) (x : Int) : Ev (fun k => slices_Index_int_int.f k l x) (idxGo x l 0) := impl_index_l0 l hl x l [] rfl
theorem idx_mem (x : Int) : ∀ (l : List Int) (i : Int), 0 ≤ i → (decide (idxGo x l i ≥ 0) = decide (x ∈ l))
  | [], i, _ => by simp [idxGo]
  | c :: cs, i, h => by
    by_cases hc : c = x
    · simp [idxGo, hc, h]
    · rw [idxGo, if_neg hc, idx_mem x cs (i + 1) (by omega)]
      simp [Ne.symm hc]
theorem impl_contains (l : List Int) (hl : l.length ≤ 4611686018427387904) (x : Int) : Ev (fun k => slices_Contains_int_int.f k l x) (decide (x ∈ l)) := by
  unfold slices_Contains_int_int.f
  refine Ev.bind (impl_index l hl x) ?_
  simp only [idx_mem x l 0 (Int.le_refl 0)]
  exact Ev.now _

/-! Cells of a table: the law's, and the program's. -/
theorem rdT_mid (p s : List S69) (x : S69) : rd_T69 (p ++ x :: s) (p.length : Int) = x := by simp [rd_T69, List.getD]
abbrev Cl := S69
/-- The place of the first cell with these coordinates, or -1. -/
def cellGo (x y : Int) : List Cl → Int → Int
  | [], _ => -1
  | c :: cs, i => if c.f0 = x ∧ c.f1 = y then i else cellGo x y cs (i + 1)
def cellAt (l : List Cl) (x y : Int) : Int := cellGo x y l 0
theorem spec_CellAt_l0 (l : List Cl) (hl : l.length ≤ 1048576) (x y : Int) : ∀ (suf pre : List Cl), l = pre ++ suf →
    Ev (fun k => spec_CellAt.l0 k x y l (l.length : Int) (pre.length : Int)) (cellGo x y suf pre.length) := by
  intro suf
  induction suf with
  | nil =>
    intro pre h
    subst h
    refine ⟨1, fun k hk => ?_⟩
    obtain ⟨k, rfl⟩ : ∃ m, k = m + 1 := ⟨k - 1, by omega⟩
    simp only [spec_CellAt.l0]
    rw [if_neg (nlt_end pre)]
    rfl
  | cons c suf ih =>
    intro pre h
    have := ih (pre ++ [c]) (by simp [h])
    subst h
    by_cases hc : c.f0 = x ∧ c.f1 = y
    · refine Ev.step (f := fun _ => some ((pre.length : Nat) : Int)) (fun k => ?_) (by rw [cellGo, if_pos hc]; exact Ev.now _)
      simp only [spec_CellAt.l0]
      rw [if_pos (lt_mid pre suf c), if_pos (Int.natCast_nonneg _), if_pos (lt_mid pre suf c), rdT_mid, if_pos hc.1, if_pos hc.2]
    · rw [cellGo, if_neg hc]
      rw [show ((pre ++ [c]).length : Int) = (pre.length : Int) + 1 by simp] at this
      refine Ev.step (fun k => ?_) this
      simp only [spec_CellAt.l0]
      rw [if_pos (lt_mid pre suf c), if_pos (Int.natCast_nonneg _), if_pos (lt_mid pre suf c), rdT_mid, wrap_snoc (x := c) (s := suf) (by simp at hl ⊢; omega)]
      by_cases h1 : c.f0 = x
      · rw [if_pos h1, if_neg (fun h2 => hc ⟨h1, h2⟩)]; simp
      · rw [if_neg h1]; simp
theorem spec_CellAt_ev (l : List Cl) (hl : l.length ≤ 1048576) (x y : Int) : Ev (fun k => spec_CellAt.f k l x y) (cellAt l x y) := spec_CellAt_l0 l hl x y l [] rfl
theorem impl_Index_l0 (l : List Cl) (hl : l.length ≤ 1048576) (x y : Int) : ∀ (suf pre : List Cl), l = pre ++ suf →
    Ev (fun k => impl_Cell.l0 k l (l.length : Int) (pre.length : Int) x y) (cellGo x y suf pre.length) := by
  intro suf
  induction suf with
  | nil =>
    intro pre h
    subst h
    refine ⟨1, fun k hk => ?_⟩
    obtain ⟨k, rfl⟩ : ∃ m, k = m + 1 := ⟨k - 1, by omega⟩
    simp only [impl_Cell.l0]
    rw [if_neg (nlt_end pre)]
    rfl
  | cons c suf ih =>
    intro pre h
    have := ih (pre ++ [c]) (by simp [h])
    subst h
    by_cases hc : c.f0 = x ∧ c.f1 = y
    · refine Ev.step (f := fun _ => some ((pre.length : Nat) : Int)) (fun k => ?_) (by rw [cellGo, if_pos hc]; exact Ev.now _)
      simp only [impl_Cell.l0]
      rw [if_pos (lt_mid pre suf c), if_pos (Int.natCast_nonneg _), if_pos (lt_mid pre suf c), rdT_mid, hc.1, hc.2]
      simp
    · rw [cellGo, if_neg hc]
      rw [show ((pre ++ [c]).length : Int) = (pre.length : Int) + 1 by simp] at this
      refine Ev.step (fun k => ?_) this
      simp only [impl_Cell.l0]
      rw [if_pos (lt_mid pre suf c), if_pos (Int.natCast_nonneg _), if_pos (lt_mid pre suf c), rdT_mid, wrap_snoc (x := c) (s := suf) (by simp at hl ⊢; omega)]
      rw [if_neg (by simp; exact fun h1 h2 => hc ⟨h1.symm, h2.symm⟩)]
      simp
theorem impl_CellAt_ev (l : List Cl) (hl : l.length ≤ 1048576) (x y : Int) : Ev (fun k => impl_CellAt.f k l x y) (cellAt l x y) := by
  refine Ev.bind (impl_Index_l0 l hl x y l [] rfl) ?_
  exact Ev.now _

theorem rd_get (q : List Int) (i : Nat) (h : i < q.length) : rd q (i : Int) = q[i] := by simp [rd, List.getD, h]

theorem cellGo_bd (x y : Int) : ∀ (l : List Cl) (i : Int), cellGo x y l i = -1 ∨ (i ≤ cellGo x y l i ∧ cellGo x y l i < i + l.length)
  | [], i => .inl rfl
  | c :: cs, i => by
    rw [cellGo]
    split
    · right; simp; omega
    · rcases cellGo_bd x y cs (i + 1) with h | ⟨h1, h2⟩
      · exact .inl h
      · right; simp; omega
theorem cellAt_bd (l : List Cl) (x y : Int) : -1 ≤ cellAt l x y ∧ cellAt l x y < l.length := by
  unfold cellAt
  rcases cellGo_bd x y l 0 with h | ⟨h1, h2⟩ <;> omega
/-- The neighbours of a cell: right, left, up, down; -1 where there is none. -/
def nbrs (l : List Cl) (i : Int) : List Int :=
  [cellAt l ((rd_T69 l i).f0 + 1) (rd_T69 l i).f1, cellAt l ((rd_T69 l i).f0 + -1) (rd_T69 l i).f1, cellAt l (rd_T69 l i).f0 ((rd_T69 l i).f1 + 1), cellAt l (rd_T69 l i).f0 ((rd_T69 l i).f1 + -1)]
theorem nbrs_lt (l : List Cl) (i : Int) : ∀ k ∈ nbrs l i, k < (l.length : Int) := by
  intro k hk
  simp only [nbrs, List.mem_cons, List.not_mem_nil, or_false] at hk
  rcases hk with rfl | rfl | rfl | rfl <;> exact (cellAt_bd ..).2
/-- The cells lie where tables lie. -/
def Near0 (l : List Cl) : Prop := ∀ c ∈ l, 0 ≤ c.f0 ∧ c.f0 ≤ 9 ∧ 0 ≤ c.f1 ∧ c.f1 ≤ 9
theorem near_rd {l : List Cl} (hv : Near0 l) {i : Int} (h0 : 0 ≤ i) (h1 : i < l.length) : 0 ≤ (rd_T69 l i).f0 ∧ (rd_T69 l i).f0 ≤ 9 ∧ 0 ≤ (rd_T69 l i).f1 ∧ (rd_T69 l i).f1 ≤ 9 := by
  have h : i.toNat < l.length := by omega
  have e : rd_T69 l i = l[i.toNat] := by simp [rd_T69, List.getD, h]
  rw [e]
  exact hv _ (List.getElem_mem h)
theorem impl_table_l2 (l : List Cl) (hl : l.length ≤ 6) (x6 : Int) (hx : 0 ≤ x6 ∧ x6 ≤ 1000) (ys : List Int) (hy : ys.length ≤ 1000) (r : Bool) : ∀ (suf pre q : List Int), ys = pre ++ suf → Few l.length q → (∀ k ∈ suf, k < (l.length : Int)) →
    Ev (fun k => impl_TableOk.l1 k l (pushAll q suf) (x6 + 1)) r → Ev (fun k => impl_TableOk.l2 k l q x6 ys (ys.length : Int) (pre.length : Int)) r := by
  intro suf
  induction suf with
  | nil =>
    intro pre q h hq hk hr
    subst h
    refine ev_up ?_
    simp only [impl_TableOk.l2, if_neg (nlt_end pre), pw_wrap (a := x6 + 1) (by omega) (by omega)]
    exact hr
  | cons c suf ih =>
    intro pre q h hq hk hr
    have hc := hk c (by simp)
    have hf := few_push hq hc
    have hi := ih (pre ++ [c]) (push q c) (by simp [h]) hf (fun k h' => hk k (by simp [h'])) hr
    subst h
    have hql := few_len hq
    refine ev_up ?_
    simp only [impl_TableOk.l2, if_pos (lt_mid pre suf c), if_pos (Int.natCast_nonneg pre.length), rd_mid, wrap_snoc (x := c) (s := suf) (p := pre) (by simp at hy ⊢; omega)]
    by_cases h0 : c ≥ 0
    · simp only [if_pos h0]
      refine Ev.bind (impl_contains q (by omega) c) ?_
      by_cases hm : c ∈ q
      · simp only [decide_eq_true hm, if_true]
        unfold push at hi
        rw [if_neg (fun h => h.2 hm)] at hi
        exact hi
      · simp only [decide_eq_false hm, Bool.false_eq_true, if_false, if_pos (show q.length < 17592186044416 by omega)]
        unfold push at hi
        rw [if_pos ⟨h0, hm⟩] at hi
        exact hi
    · simp only [if_neg h0]
      unfold push at hi
      rw [if_neg (fun h => h0 h.1)] at hi
      exact hi
/-- Everything is met from the first cell. -/
def whole (l : List Cl) (f : Nat) (q : List Int) (i : Nat) : Bool := ((bfs (nbrs l) f q i).length : Int) == (l.length : Int)
theorem impl_table_l1 (l : List Cl) (hl : l.length ≤ 6) (hv : Near0 l) : ∀ (f : Nat) (q : List Int) (i : Nat), Few l.length q → i ≤ q.length → f + i = l.length + 1 →
    Ev (fun k => impl_TableOk.l1 k l q (i : Int)) (whole l f q i) := by
  intro f
  induction f with
  | zero =>
    intro q i hq hi hf
    have := few_len hq
    omega
  | succ f ih =>
    intro q i hq hi hf
    have hql := few_len hq
    refine ev_up ?_
    by_cases h : i < q.length
    · have hx := hq.2 _ (List.getElem_mem h)
      have hr := near_rd hv hx.1 hx.2
      generalize hc : rd_T69 l q[i] = c at hr
      simp only [impl_TableOk.l1, if_pos (show ((i : Nat) : Int) < (q.length : Int) by omega), if_pos (Int.natCast_nonneg i), rd_get q i h, if_pos hx.1, if_pos hx.2, hc,
        pw_wrap (a := c.f0 + 1) (by omega) (by omega), pw_wrap (a := c.f0 - 1) (by omega) (by omega), pw_wrap (a := c.f1 + 1) (by omega) (by omega), pw_wrap (a := c.f1 - 1) (by omega) (by omega)]
      refine Ev.bind (impl_CellAt_ev l (by omega) _ _) ?_
      refine Ev.bind (impl_CellAt_ev l (by omega) _ _) ?_
      refine Ev.bind (impl_CellAt_ev l (by omega) _ _) ?_
      refine Ev.bind (impl_CellAt_ev l (by omega) _ _) ?_
      simp only [Option.bind_some]
      have hp := few_pushAll _ q hq (nbrs_lt l q[i])
      have := ih _ (i + 1) hp.1 (by have := hp.2; omega) (by omega)
      have := impl_table_l2 l hl i (by omega) (nbrs l q[i]) (by simp [nbrs]) _ _ [] q rfl hq (nbrs_lt l q[i]) this
      rw [whole, bfs, dif_pos h]
      unfold nbrs at this ⊢
      rw [hc] at this ⊢
      exact this
    · simp only [impl_TableOk.l1, if_neg (show ¬ ((i : Nat) : Int) < (q.length : Int) by omega)]
      rw [whole, bfs_done _ _ _ _ h]
      exact Ev.now _
/-- The cells lie in range, in ascending order of row and then column. -/
def vGo : Option Cl → List Cl → Bool
  | _, [] => true
  | none, c :: cs => decide (0 ≤ c.f0 ∧ c.f0 ≤ 9) && decide (0 ≤ c.f1 ∧ c.f1 ≤ 9) && vGo (some c) cs
  | some p, c :: cs => decide (0 ≤ c.f0 ∧ c.f0 ≤ 9) && decide (0 ≤ c.f1 ∧ c.f1 ≤ 9) && !decide (c.f1 < p.f1 ∨ c.f1 = p.f1 ∧ c.f0 ≤ p.f0) && vGo (some c) cs
theorem vGo_near : ∀ (p : Option Cl) (l : List Cl), vGo p l = true → Near0 l
  | _, [], _ => fun c hc => by simp at hc
  | none, c :: cs, h => by
    simp only [vGo, Bool.and_eq_true, decide_eq_true_eq] at h
    intro d hd
    rcases List.mem_cons.1 hd with rfl | hd
    · exact ⟨h.1.1.1, h.1.1.2, h.1.2.1, h.1.2.2⟩
    · exact vGo_near (some c) cs h.2 d hd
  | some p, c :: cs, h => by
    simp only [vGo, Bool.and_eq_true, decide_eq_true_eq] at h
    intro d hd
    rcases List.mem_cons.1 hd with rfl | hd
    · exact ⟨h.1.1.1.1, h.1.1.1.2, h.1.1.2.1, h.1.1.2.2⟩
    · exact vGo_near (some c) cs h.2 d hd
def tableB (l : List Cl) : Bool := decide (1 ≤ l.length ∧ l.length ≤ 6) && vGo none l && whole l (l.length + 1) [0] 0
theorem tableB_side {l : List Cl} (h : tableB l = true) : (1 ≤ l.length ∧ l.length ≤ 6) ∧ Near0 l ∧ vGo none l = true ∧ whole l (l.length + 1) [0] 0 = true := by
  simp only [tableB, Bool.and_eq_true, decide_eq_true_eq] at h
  exact ⟨h.1.1, vGo_near _ _ h.1.2, h.1.2, h.2⟩

theorem few_zero {n : Nat} (h : 1 ≤ n) : Few n [0] := ⟨by simp, fun x hx => by simp at hx; subst hx; omega⟩
theorem near_snoc {pre : List Cl} {c : Cl} (h : Near0 pre) (hc : 0 ≤ c.f0 ∧ c.f0 ≤ 9 ∧ 0 ≤ c.f1 ∧ c.f1 ≤ 9) : Near0 (pre ++ [c]) := by
  intro d hd
  rcases List.mem_append.1 hd with hd | hd
  · exact h d hd
  · simp at hd; subst hd; exact hc
theorem impl_table_l0 (l : List Cl) (hn : 1 ≤ l.length ∧ l.length ≤ 6) : ∀ (suf pre : List Cl), l = pre ++ suf → Near0 pre →
    Ev (fun k => impl_TableOk.l0 k l l (l.length : Int) (pre.length : Int)) (vGo pre.getLast? suf && whole l (l.length + 1) [0] 0) := by
  intro suf
  induction suf with
  | nil =>
    intro pre h hp
    refine ev_up ?_
    have hlen : ¬ ((pre.length : Nat) : Int) < (l.length : Int) := by rw [h]; simp
    simp only [impl_TableOk.l0, if_neg hlen]
    have hv : Near0 l := by rw [h]; simpa using hp
    have := impl_table_l1 l hn.2 hv (l.length + 1) [0] 0 (few_zero hn.1) (by simp) rfl
    cases hgl : pre.getLast? <;> simpa [vGo] using this
  | cons c suf ih =>
    intro pre h hp
    have hlt : ((pre.length : Nat) : Int) < (l.length : Int) := by rw [h]; exact lt_mid pre suf c
    have hrd : rd_T69 l (pre.length : Int) = c := by rw [h]; exact rdT_mid pre suf c
    have hw : wrap64 ((pre.length : Int) + 1) = ((pre ++ [c]).length : Int) := wrap_snoc (s := suf) (by rw [← h]; omega)
    have hbad : ∀ r : Bool, r = false → Ev (fun k => impl_TableOk.j2 k l (pre.length : Int) l (l.length : Int) (pre.length : Int) true c.f0 c.f1) r := by
      rintro r rfl
      refine ev_up ?_
      simp only [impl_TableOk.j2, if_true]
      exact Ev.now _
    refine ev_up ?_
    simp only [impl_TableOk.l0, if_pos hlt, if_pos (Int.natCast_nonneg pre.length), hrd]
    by_cases h1 : 0 ≤ c.f0 ∧ c.f0 ≤ 9
    · by_cases h2 : 0 ≤ c.f1 ∧ c.f1 ≤ 9
      · have hi := ih (pre ++ [c]) (by simp [h]) (near_snoc hp ⟨h1.1, h1.2, h2⟩)
        rw [List.getLast?_concat] at hi
        simp only [if_neg (show ¬ c.f0 < 0 by omega), if_neg (show ¬ c.f0 > 9 by omega), if_neg (show ¬ c.f1 < 0 by omega), decide_eq_false (show ¬ c.f1 > 9 by omega)]
        refine ev_up ?_
        simp only [impl_TableOk.j2, Bool.false_eq_true, if_false, hw]
        rcases nil_or_snoc pre with rfl | ⟨pre', p, rfl⟩
        · simp only [if_neg (show ¬ (([] : List Cl).length : Int) > 0 by simp)]
          simpa [vGo, h1, h2] using hi
        · have hlen : ((pre' ++ [p]).length : Int) = (pre'.length : Int) + 1 := by simp
          rw [hlen] at hlt
          have hw2 : wrap64 (((pre' ++ [p]).length : Int) - 1) = (pre'.length : Int) := by rw [hlen]; unfold wrap64; omega
          have hrp : rd_T69 l (pre'.length : Int) = p := by rw [h, List.append_assoc]; exact rdT_mid pre' _ p
          simp only [if_pos (show ((pre' ++ [p]).length : Int) > 0 by rw [hlen]; omega), hw2, if_pos (Int.natCast_nonneg pre'.length), if_pos (show ((pre'.length : Nat) : Int) < (l.length : Int) by omega), hrp]
          rw [List.getLast?_concat]
          by_cases h3 : c.f1 < p.f1
          · simp only [if_pos h3]
            simpa [vGo, h3] using Ev.now false
          · by_cases h4 : c.f1 = p.f1
            · by_cases h5 : c.f0 ≤ p.f0
              · simp only [if_neg h3, if_pos h4, if_pos h5]
                simpa [vGo, h4, h5] using Ev.now false
              · simp only [if_neg h3, if_pos h4, if_neg h5]
                have e : (decide (c.f1 < p.f1 ∨ c.f1 = p.f1 ∧ c.f0 ≤ p.f0)) = false := decide_eq_false (by omega)
                simp only [vGo, decide_eq_true h1, decide_eq_true h2, e, Bool.not_false, Bool.true_and]
                exact hi
            · simp only [if_neg h3, if_neg h4]
              have e : (decide (c.f1 < p.f1 ∨ c.f1 = p.f1 ∧ c.f0 ≤ p.f0)) = false := decide_eq_false (by omega)
              simp only [vGo, decide_eq_true h1, decide_eq_true h2, e, Bool.not_false, Bool.true_and]
              exact hi
      · have e : vGo pre.getLast? (c :: suf) = false := by cases pre.getLast? <;> simp only [vGo, decide_eq_false h2, Bool.and_false, Bool.false_and]
        simp only [if_neg (show ¬ c.f0 < 0 by omega), if_neg (show ¬ c.f0 > 9 by omega)]
        by_cases h3 : c.f1 < 0
        · simp only [if_pos h3]
          exact hbad _ (by rw [e]; rfl)
        · simp only [if_neg h3, decide_eq_true (show c.f1 > 9 by omega)]
          exact hbad _ (by rw [e]; rfl)
    · have e : vGo pre.getLast? (c :: suf) = false := by cases pre.getLast? <;> simp only [vGo, decide_eq_false h1, Bool.false_and]
      by_cases h3 : c.f0 < 0
      · simp only [if_pos h3]
        exact hbad _ (by rw [e]; rfl)
      · simp only [if_neg h3, if_pos (show c.f0 > 9 by omega)]
        exact hbad _ (by rw [e]; rfl)
theorem impl_table (l : List Cl) : Ev (fun k => impl_TableOk.f k l) (tableB l) := by
  unfold impl_TableOk.f tableB
  by_cases h1 : (l.length : Int) < 1
  · simp only [if_pos h1, decide_eq_false (show ¬ (1 ≤ l.length ∧ l.length ≤ 6) by omega), Bool.false_and]
    refine ev_up ?_
    simp only [impl_TableOk.j0, if_true]
    exact Ev.now _
  · simp only [if_neg h1]
    refine ev_up ?_
    by_cases h2 : l.length ≤ 6
    · simp only [impl_TableOk.j0, decide_eq_false (show ¬ (l.length : Int) > 6 by omega), Bool.false_eq_true, if_false, decide_eq_true (show 1 ≤ l.length ∧ l.length ≤ 6 by omega), Bool.true_and]
      exact impl_table_l0 l (by omega) l [] rfl (fun c hc => by simp at hc)
    · simp only [impl_TableOk.j0, decide_eq_true (show (l.length : Int) > 6 by omega), if_true, decide_eq_false (show ¬ (1 ≤ l.length ∧ l.length ≤ 6) by omega), Bool.false_and]
      exact Ev.now _

def dirX (k : Int) : Int := if k % 2 = 1 then -1 else 1
def dirY (k : Int) : Int := if k / 2 % 2 = 1 then -1 else 1
/-- The square to the right of a square of the unfolded table, and the one above. -/
def gR (l : List Cl) (x : Int) : Int := let j := cellAt l ((rd_T69 l (x / 4)).f0 + dirX (x % 4)) (rd_T69 l (x / 4)).f1
  if j < 0 then 4 * (x / 4) + x % 4 + dirX (x % 4) else 4 * j + x % 4
def gU (l : List Cl) (x : Int) : Int := let j := cellAt l (rd_T69 l (x / 4)).f0 ((rd_T69 l (x / 4)).f1 + dirY (x % 4))
  if j < 0 then 4 * (x / 4) + x % 4 + dirY (x % 4) * 2 else 4 * j + x % 4
/-- The values of g at d places from x on. -/
def vals (g : Int → Int) : Nat → Int → List Int
  | 0, _ => []
  | d + 1, x => g x :: vals g d (x + 1)
theorem vals_len (g : Int → Int) : ∀ (d : Nat) (x : Int), (vals g d x).length = d
  | 0, _ => rfl
  | d + 1, x => by simp [vals, vals_len g d]
theorem vals_add (g : Int → Int) : ∀ (a b : Nat) (x : Int), vals g (a + b) x = vals g a x ++ vals g b (x + a)
  | 0, b, x => by simp [vals]
  | a + 1, b, x => by
    rw [Nat.add_right_comm, vals, vals, vals_add g a b (x + 1)]
    simp only [List.cons_append]
    rw [show x + 1 + (a : Int) = x + ((a + 1 : Nat) : Int) by push_cast; omega]
theorem spec_next_bd {l : List Cl} (hl : l.length ≤ 6) (x y : Int) : -1 ≤ cellAt l x y ∧ cellAt l x y ≤ 5 := by have := cellAt_bd l x y; omega
theorem bits_table : Go.bits .and .i64 0 1 = 0 ∧ Go.bits .and .i64 1 1 = 1 ∧ Go.bits .and .i64 2 1 = 0 ∧ Go.bits .and .i64 3 1 = 1 ∧ Go.bits .and .i64 0 2 = 0 ∧ Go.bits .and .i64 1 2 = 0 ∧ Go.bits .and .i64 2 2 = 2 ∧ Go.bits .and .i64 3 2 = 2 ∧
    Go.bits .xor .i64 0 1 = 1 ∧ Go.bits .xor .i64 1 1 = 0 ∧ Go.bits .xor .i64 2 1 = 3 ∧ Go.bits .xor .i64 3 1 = 2 ∧ Go.bits .xor .i64 0 2 = 2 ∧ Go.bits .xor .i64 1 2 = 3 ∧ Go.bits .xor .i64 2 2 = 0 ∧ Go.bits .xor .i64 3 2 = 1 := by decide
theorem bits_k {k : Int} (h0 : 0 ≤ k) (h1 : k < 4) : (Go.bits .and .i64 k 1 = 1 ↔ k % 2 = 1) ∧ (Go.bits .and .i64 k 2 = 2 ↔ k / 2 % 2 = 1) ∧ Go.bits .xor .i64 k 1 = k + dirX k ∧ Go.bits .xor .i64 k 2 = k + dirY k * 2 := by
  have hb := bits_table
  obtain rfl | rfl | rfl | rfl : k = 0 ∨ k = 1 ∨ k = 2 ∨ k = 3 := by omega
  all_goals simp only [hb, dirX, dirY]; decide
theorem impl_unfold_j3 {l : List Cl} (hl : l.length ≤ 6) (hv : Near0 l) {i k : Int} (hi : 0 ≤ i ∧ i < l.length) (hk : 0 ≤ k ∧ k < 4) (r u : List Int) (hr : r.length ≤ 1000) (hu : u.length ≤ 1000) (res : List Int × List Int × Bool)
    (h : Ev (fun n => impl_UnfoldTable.l1 n l i (k + 1) l (l.length : Int) i (r ++ [gR l (4 * i + k)]) (u ++ [gU l (4 * i + k)]) (rd_T69 l i).f0 (rd_T69 l i).f1) res) :
    Ev (fun n => impl_UnfoldTable.j3 n l i k (dirX k) (dirY k) l (l.length : Int) i r u (rd_T69 l i).f0 (rd_T69 l i).f1) res := by
  have hc := near_rd hv hi.1 hi.2
  have hb := bits_k hk.1 hk.2
  have hdx : -1 ≤ dirX k ∧ dirX k ≤ 1 := by unfold dirX; split <;> omega
  have hdy : -1 ≤ dirY k ∧ dirY k ≤ 1 := by unfold dirY; split <;> omega
  have e1 : (4 * i + k) / 4 = i := by omega
  have e2 : (4 * i + k) % 4 = k := by omega
  have wj : ∀ a b : Int, wrap64 (4 * cellAt l a b) = 4 * cellAt l a b := fun a b => by have := spec_next_bd hl a b; exact pw_wrap (by omega) (by omega)
  have wjk : ∀ a b : Int, wrap64 (4 * cellAt l a b + k) = 4 * cellAt l a b + k := fun a b => by have := spec_next_bd hl a b; exact pw_wrap (by omega) (by omega)
  simp only [gR, gU, e1, e2] at h
  generalize rd_T69 l i = c at *
  refine ev_up ?_
  simp only [impl_UnfoldTable.j3, hb.2.2.1, hb.2.2.2, wj, wjk, pw_wrap (a := c.f0 + dirX k) (by omega) (by omega), pw_wrap (a := c.f1 + dirY k) (by omega) (by omega), pw_wrap (a := 4 * i) (by omega) (by omega), pw_wrap (a := k + 1) (by omega) (by omega),
    pw_wrap (a := 4 * i + (k + dirX k)) (by omega) (by omega), pw_wrap (a := 4 * i + (k + dirY k * 2)) (by omega) (by omega), if_pos (show r.length < 17592186044416 by omega), if_pos (show u.length < 17592186044416 by omega)]
  refine Ev.bind (impl_CellAt_ev l (by omega) _ _) ?_
  by_cases h1 : cellAt l (c.f0 + dirX k) c.f1 < 0
  · simp only [if_neg (show ¬ cellAt l (c.f0 + dirX k) c.f1 ≥ 0 by omega), wj, wjk]
    rw [if_pos h1, Int.add_assoc] at h
    refine Ev.bind (impl_CellAt_ev l (by omega) _ _) ?_
    by_cases h2 : cellAt l c.f0 (c.f1 + dirY k) < 0
    · simp only [if_neg (show ¬ cellAt l c.f0 (c.f1 + dirY k) ≥ 0 by omega), wj, wjk]
      rw [if_pos h2, Int.add_assoc] at h
      exact h
    · simp only [if_pos (show cellAt l c.f0 (c.f1 + dirY k) ≥ 0 by omega), wj, wjk]
      rw [if_neg h2] at h
      exact h
  · simp only [if_pos (show cellAt l (c.f0 + dirX k) c.f1 ≥ 0 by omega), wj, wjk]
    rw [if_neg h1] at h
    refine Ev.bind (impl_CellAt_ev l (by omega) _ _) ?_
    by_cases h2 : cellAt l c.f0 (c.f1 + dirY k) < 0
    · simp only [if_neg (show ¬ cellAt l c.f0 (c.f1 + dirY k) ≥ 0 by omega), wj, wjk]
      rw [if_pos h2, Int.add_assoc] at h
      exact h
    · simp only [if_pos (show cellAt l c.f0 (c.f1 + dirY k) ≥ 0 by omega), wj, wjk]
      rw [if_neg h2] at h
      exact h
theorem impl_unfold_l1 {l : List Cl} (hl : l.length ≤ 6) (hv : Near0 l) {i : Int} (hi : 0 ≤ i ∧ i < l.length) (res : List Int × List Int × Bool) : ∀ (d : Nat) (k : Int) (r u : List Int), 0 ≤ k → k + d = 4 → r.length + d ≤ 1000 → u.length + d ≤ 1000 →
    Ev (fun n => impl_UnfoldTable.l0 n l l (l.length : Int) (i + 1) (r ++ vals (gR l) d (4 * i + k)) (u ++ vals (gU l) d (4 * i + k))) res →
    Ev (fun n => impl_UnfoldTable.l1 n l i k l (l.length : Int) i r u (rd_T69 l i).f0 (rd_T69 l i).f1) res := by
  intro d
  induction d with
  | zero =>
    intro k r u h0 h1 h2 h3 h
    refine ev_up ?_
    simp only [impl_UnfoldTable.l1, if_neg (show ¬ k < 4 by omega), pw_wrap (a := i + 1) (by omega) (by omega)]
    simpa [vals] using h
  | succ d ih =>
    intro k r u h0 h1 h2 h3 h
    have hb := bits_k h0 (show k < 4 by omega)
    have hn := ih (k + 1) (r ++ [gR l (4 * i + k)]) (u ++ [gU l (4 * i + k)]) (by omega) (by omega) (by simp; omega) (by simp; omega) (by
      rw [← Int.add_assoc]
      simpa [vals] using h)
    have h3 := impl_unfold_j3 hl hv hi ⟨h0, by omega⟩ r u (by omega) (by omega) res hn
    have h2 : ∀ dx, dx = dirX k → Ev (fun n => impl_UnfoldTable.j2 n l i k dx 1 l (l.length : Int) i r u (rd_T69 l i).f0 (rd_T69 l i).f1) res := by
      rintro dx rfl
      refine ev_up ?_
      by_cases hp : k / 2 % 2 = 1
      · simp only [impl_UnfoldTable.j2, if_pos (hb.2.1.2 hp)]
        rw [show dirY k = -1 from by rw [dirY, if_pos hp]] at h3
        exact h3
      · simp only [impl_UnfoldTable.j2, if_neg (fun h => hp (hb.2.1.1 h))]
        rw [show dirY k = 1 from by rw [dirY, if_neg hp]] at h3
        exact h3
    refine ev_up ?_
    by_cases hp : k % 2 = 1
    · simp only [impl_UnfoldTable.l1, if_pos (show k < 4 by omega), if_pos (hb.1.2 hp)]
      exact h2 (-1) (by rw [dirX, if_pos hp])
    · simp only [impl_UnfoldTable.l1, if_pos (show k < 4 by omega), if_neg (fun h => hp (hb.1.1 h))]
      exact h2 1 (by rw [dirX, if_neg hp])
theorem impl_unfold_l0 {l : List Cl} (hl : l.length ≤ 6) (hv : Near0 l) : ∀ (d : Nat) (i : Int) (r u : List Int), 0 ≤ i → i + d = l.length → r.length + 4 * d ≤ 1000 → u.length + 4 * d ≤ 1000 →
    Ev (fun n => impl_UnfoldTable.l0 n l l (l.length : Int) i r u) (r ++ vals (gR l) (4 * d) (4 * i), u ++ vals (gU l) (4 * d) (4 * i), true) := by
  intro d
  induction d with
  | zero =>
    intro i r u h0 h1 h2 h3
    refine ev_up ?_
    simp only [impl_UnfoldTable.l0, if_neg (show ¬ i < (l.length : Int) by omega)]
    simpa [vals] using Ev.now (r, u, true)
  | succ d ih =>
    intro i r u h0 h1 h2 h3
    have hi : 0 ≤ i ∧ i < (l.length : Int) := by omega
    have e4 : ∀ g : Int → Int, vals g (4 * (d + 1)) (4 * i) = vals g 4 (4 * i + 0) ++ vals g (4 * d) (4 * (i + 1)) := fun g => by
      rw [show 4 * (d + 1) = 4 + 4 * d by omega, vals_add, Int.add_zero]
      congr 2
      push_cast
      omega
    have hn := ih (i + 1) (r ++ vals (gR l) 4 (4 * i + 0)) (u ++ vals (gU l) 4 (4 * i + 0)) (by omega) (by omega) (by simp [vals_len]; omega) (by simp [vals_len]; omega)
    refine ev_up ?_
    simp only [impl_UnfoldTable.l0, if_pos hi.2, if_pos h0]
    refine impl_unfold_l1 hl hv hi _ 4 0 r u (by omega) (by omega) (by omega) (by omega) ?_
    rw [e4, e4, ← List.append_assoc, ← List.append_assoc]
    exact hn
def unfR (l : List Cl) : List Int := vals (gR l) (4 * l.length) 0
def unfU (l : List Cl) : List Int := vals (gU l) (4 * l.length) 0
/-- What both answer. -/
def unfOf (l : List Cl) : List Int × List Int × Bool := if tableB l = true then (unfR l, unfU l, true) else ([], [], false)
theorem impl_unfold (l : List Cl) : Ev (fun k => impl_UnfoldTable.f k l) (unfOf l) := by
  unfold impl_UnfoldTable.f unfOf
  refine Ev.bind (impl_table l) ?_
  by_cases h : tableB l = true
  · obtain ⟨h1, h2, _, _⟩ := tableB_side h
    simp only [if_pos h]
    exact impl_unfold_l0 h1.2 h2 l.length 0 [] [] (by omega) (by omega) (by simp; omega) (by simp; omega)
  · simp only [if_neg h]
    exact Ev.now _

theorem vGo_gt : ∀ (cs : List Cl) (p : Cl), vGo (some p) cs = true → ∀ c ∈ cs, p.f1 < c.f1 ∨ p.f1 = c.f1 ∧ p.f0 < c.f0
  | [], _, _ => fun c hc => by simp at hc
  | d :: cs, p, h => by
    simp only [vGo, Bool.and_eq_true, Bool.not_eq_true', decide_eq_false_iff_not] at h
    have hd : p.f1 < d.f1 ∨ p.f1 = d.f1 ∧ p.f0 < d.f0 := by have := h.1.2; omega
    intro c hc
    rcases List.mem_cons.1 hc with rfl | hc
    · exact hd
    · have := vGo_gt cs d h.2 c hc
      omega
theorem vGo_tail {o : Option Cl} {c : Cl} {cs : List Cl} (h : vGo o (c :: cs) = true) : vGo (some c) cs = true := by
  cases o with
  | none => simp only [vGo, Bool.and_eq_true] at h; exact h.2
  | some p => simp only [vGo, Bool.and_eq_true] at h; exact h.2
theorem cellGo_at : ∀ (l : List Cl) (o : Option Cl) (s : Int), vGo o l = true → ∀ (j : Nat) (h : j < l.length), cellGo l[j].f0 l[j].f1 l s = s + j
  | [], _, _, _, j, h => absurd h (by simp)
  | c :: cs, o, s, hv, 0, _ => by simp [cellGo]
  | c :: cs, o, s, hv, j + 1, h => by
    have ht := vGo_tail hv
    have hj : j < cs.length := by simpa using h
    have hg := vGo_gt cs c ht _ (List.getElem_mem hj)
    simp only [List.getElem_cons_succ, cellGo]
    rw [if_neg (by omega), cellGo_at cs (some c) (s + 1) ht j hj]
    omega
theorem cellGo_hit (x y : Int) : ∀ (l : List Cl) (s : Int), cellGo x y l s = -1 ∨ ∃ (j : Nat) (h : j < l.length), cellGo x y l s = s + j ∧ l[j].f0 = x ∧ l[j].f1 = y
  | [], _ => .inl rfl
  | c :: cs, s => by
    rw [cellGo]
    by_cases hc : c.f0 = x ∧ c.f1 = y
    · rw [if_pos hc]
      exact .inr ⟨0, by simp, by simp, hc.1, hc.2⟩
    · rw [if_neg hc]
      rcases cellGo_hit x y cs (s + 1) with e | ⟨j, hj, e, h1, h2⟩
      · exact .inl e
      · exact .inr ⟨j + 1, by simp; omega, by rw [e]; simp; omega, h1, h2⟩
theorem rdT_get (l : List Cl) (j : Nat) (h : j < l.length) : rd_T69 l (j : Int) = l[j] := by simp [rd_T69, List.getD, h]
theorem cellAt_self {l : List Cl} (hv : vGo none l = true) {i : Int} (h0 : 0 ≤ i) (h1 : i < l.length) : cellAt l (rd_T69 l i).f0 (rd_T69 l i).f1 = i := by
  obtain ⟨n, rfl⟩ := Int.eq_ofNat_of_zero_le h0
  have hn : n < l.length := by omega
  rw [rdT_get l n hn]
  unfold cellAt
  rw [cellGo_at l none 0 hv n hn]
  omega
theorem cellAt_hit {l : List Cl} {x y : Int} (h : 0 ≤ cellAt l x y) : (rd_T69 l (cellAt l x y)).f0 = x ∧ (rd_T69 l (cellAt l x y)).f1 = y := by
  unfold cellAt at *
  rcases cellGo_hit x y l 0 with e | ⟨j, hj, e, h1, h2⟩
  · rw [e] at h
    omega
  · rw [e, Int.zero_add, rdT_get l j hj]
    exact ⟨h1, h2⟩

theorem mem_push {q : List Int} {x : Int} (k : Int) (h : x ∈ q) : x ∈ push q k := by
  unfold push
  split
  · exact List.mem_append_left _ h
  · exact h
theorem mem_pushAll {x : Int} : ∀ (ks q : List Int), x ∈ q → x ∈ pushAll q ks
  | [], _, h => h
  | k :: ks, q, h => mem_pushAll ks (push q k) (mem_push k h)
theorem push_mem {q : List Int} {k : Int} (h : 0 ≤ k) : k ∈ push q k := by
  unfold push
  by_cases hk : k ∈ q
  · rw [if_neg (fun z => z.2 hk)]
    exact hk
  · rw [if_pos ⟨h, hk⟩]
    simp
theorem pushAll_mem {k : Int} (h0 : 0 ≤ k) : ∀ (ks q : List Int), k ∈ ks → k ∈ pushAll q ks
  | [], _, h => absurd h (by simp)
  | c :: ks, q, h => by
    rcases List.mem_cons.1 h with rfl | h
    · exact mem_pushAll ks _ (push_mem h0)
    · exact pushAll_mem h0 ks (push q c) h
theorem pushAll_pre : ∀ (ks q : List Int), ∃ s, pushAll q ks = q ++ s
  | [], q => ⟨[], by simp [pushAll]⟩
  | k :: ks, q => by
    obtain ⟨s, hs⟩ := pushAll_pre ks (push q k)
    have e : pushAll q (k :: ks) = pushAll (push q k) ks := rfl
    rw [e, hs]
    unfold push
    split
    · exact ⟨k :: s, by simp⟩
    · exact ⟨s, rfl⟩
theorem bfs_pre (nb : Int → List Int) : ∀ (f : Nat) (q : List Int) (i : Nat), ∃ s, bfs nb f q i = q ++ s
  | 0, q, i => ⟨[], by simp [bfs]⟩
  | f + 1, q, i => by
    rw [bfs]
    split
    · rename_i h
      obtain ⟨s, hs⟩ := pushAll_pre (nb q[i]) q
      obtain ⟨s', hs'⟩ := bfs_pre nb f (pushAll q (nb q[i])) (i + 1)
      exact ⟨s ++ s', by rw [hs', hs, List.append_assoc]⟩
    · exact ⟨[], by simp⟩
/-- What is met is closed. -/
theorem bfs_closed {n : Nat} (nb : Int → List Int) (hnb : ∀ x : Int, 0 ≤ x → x < (n : Int) → ∀ k ∈ nb x, k < (n : Int)) : ∀ (f : Nat) (q : List Int) (i : Nat), Few n q → f + i = n + 1 → (∀ j (h : j < q.length), j < i → ∀ k ∈ nb q[j], 0 ≤ k → k ∈ q) →
    ∀ x ∈ bfs nb f q i, ∀ k ∈ nb x, 0 ≤ k → k ∈ bfs nb f q i
  | 0, q, i, hq, hf, hc => by
    intro x hx k hk h0
    have e : bfs nb 0 q i = q := rfl
    rw [e] at hx ⊢
    obtain ⟨j, hj, rfl⟩ := List.getElem_of_mem hx
    have := few_len hq
    exact hc j hj (by omega) k hk h0
  | f + 1, q, i, hq, hf, hc => by
    rw [bfs]
    split
    · rename_i h
      have hr := hq.2 _ (List.getElem_mem h)
      have hp := few_pushAll (nb q[i]) q hq (hnb _ hr.1 hr.2)
      refine bfs_closed nb hnb f _ (i + 1) hp.1 (by omega) ?_
      intro j hj hji k hk h0
      obtain ⟨s, hs⟩ := pushAll_pre (nb q[i]) q
      have hjq : j < q.length := by omega
      have e : (pushAll q (nb q[i]))[j] = q[j] := by simp [hs, List.getElem_append_left hjq]
      rw [e] at hk
      by_cases hji2 : j = i
      · subst hji2
        exact pushAll_mem h0 _ _ hk
      · exact mem_pushAll _ _ (hc j hjq (by omega) k hk h0)
    · rename_i h
      intro x hx k hk h0
      obtain ⟨j, hj, rfl⟩ := List.getElem_of_mem hx
      exact hc j hj (by omega) k hk h0
/-- What is met lies in every closed set with the beginning. -/
theorem bfs_sub (nb : Int → List Int) (P : Int → Prop) (hP : ∀ x, P x → ∀ k ∈ nb x, 0 ≤ k → P k) : ∀ (f : Nat) (q : List Int) (i : Nat), (∀ x ∈ q, P x) → ∀ x ∈ bfs nb f q i, P x
  | 0, q, i, h => h
  | f + 1, q, i, h => by
    rw [bfs]
    split
    · rename_i hi
      refine bfs_sub nb P hP f _ (i + 1) ?_
      have hx := h _ (List.getElem_mem hi)
      have all : ∀ (ks q : List Int), (∀ k ∈ ks, 0 ≤ k → P k) → (∀ x ∈ q, P x) → ∀ x ∈ pushAll q ks, P x := by
        intro ks
        induction ks with
        | nil => exact fun q _ h => h
        | cons k ks ih =>
          intro q hk hq
          refine ih (push q k) (fun z hz => hk z (List.mem_cons_of_mem _ hz)) ?_
          intro z hz
          unfold push at hz
          split at hz
          · rename_i hc
            rcases List.mem_append.1 hz with hz | hz
            · exact hq z hz
            · simp at hz
              subst hz
              exact hk z List.mem_cons_self hc.1
          · exact hq z hz
      exact all _ q (fun k hk h0 => hP _ hx k hk h0) h
    · exact h

def permSGo (n : Int) : List Int → List Int → Bool
  | _, [] => true
  | pre, x :: xs => if 0 ≤ x ∧ x ≤ n - 1 then (if x ∈ pre then false else permSGo n (pre ++ [x]) xs) else false
def permSB (p : List Int) : Bool := if p.length ≤ 24 then permSGo p.length [] p else false

/-- A permutation of at most 24 elements. -/
def isPerm (p : List Int) : Prop := p.length ≤ 24 ∧ (∀ x ∈ p, 0 ≤ x ∧ x < (p.length : Int)) ∧ p.Nodup
theorem perm_go (n : Nat) (hn : n ≤ 24) : ∀ (p pre : List Int) (seen : List Bool), seen.length = 24 → (∀ x : Int, 0 ≤ x → x < n → (seen.getD x.toNat false = true ↔ x ∈ pre)) →
    permGo n p seen = permSGo n pre p := by
  intro p
  induction p with
  | nil => intro pre seen _ _; rfl
  | cons x p ih =>
    intro pre seen hl hs
    simp only [permGo, permSGo]
    by_cases h0 : x < 0
    · rw [if_pos h0, if_neg (by omega)]
    · rw [if_neg h0]
      by_cases h1 : (n : Int) ≤ x
      · rw [if_pos h1, if_neg (by omega)]
      · rw [if_neg h1, if_pos (show 0 ≤ x ∧ x ≤ (n : Int) - 1 by omega)]
        have hx := hs x (by omega) (by omega)
        by_cases h2 : x ∈ pre
        · rw [if_pos (hx.2 h2), if_pos h2]
        · rw [if_neg (fun h => h2 (hx.1 h)), if_neg h2]
          refine ih _ _ (by simpa using hl) (fun y hy0 hy1 => ?_)
          by_cases hxy : x = y
          · subst hxy
            have : x.toNat < seen.length := by omega
            simp [List.getD, this]
          · have hne : x.toNat ≠ y.toNat := by omega
            have := hs y hy0 hy1
            simp only [List.getD, List.getElem?_set_ne hne]
            rw [List.getD] at this
            rw [this]
            simp [Ne.symm hxy]
theorem perm_same (p : List Int) : permB p = permSB p := by
  unfold permB permSB
  by_cases h : p.length ≤ 24
  · rw [if_pos h, if_pos h]
    refine perm_go p.length h p [] no24 rfl (fun x h0 h1 => ?_)
    have : no24.getD x.toNat false = false := by
      unfold no24
      simp only [List.getD, List.getElem?_replicate]
      split <;> rfl
    rw [this]
    simp
  · rw [if_neg h, if_neg h]
theorem permS_iff (n : Nat) : ∀ (p pre : List Int), permSGo n pre p = true ↔ ((∀ x ∈ p, 0 ≤ x ∧ x < (n : Int)) ∧ (∀ x ∈ p, x ∉ pre) ∧ p.Nodup)
  | [], pre => by simp [permSGo]
  | x :: p, pre => by
    simp only [permSGo]
    by_cases h : 0 ≤ x ∧ x ≤ (n : Int) - 1
    · rw [if_pos h]
      by_cases h2 : x ∈ pre
      · rw [if_pos h2]
        simp [h2]
      · rw [if_neg h2, permS_iff n p (pre ++ [x])]
        simp only [List.mem_cons, forall_eq_or_imp, List.nodup_cons]
        constructor
        · rintro ⟨h3, h4, h5⟩
          exact ⟨⟨by omega, h3⟩, ⟨h2, fun y hy hp => h4 y hy (List.mem_append.2 (.inl hp))⟩, fun hx => h4 x hx (List.mem_append.2 (.inr (List.mem_singleton.2 rfl))), h5⟩
        · rintro ⟨h3, h4, h5, h6⟩
          refine ⟨h3.2, fun y hy hp => ?_, h6⟩
          rcases List.mem_append.1 hp with hp | hp
          · exact h4.2 y hy hp
          · rw [List.mem_singleton.1 hp] at hy
            exact h5 hy
    · rw [if_neg h]
      simp only [Bool.false_eq_true, List.mem_cons, forall_eq_or_imp, false_iff]
      intro h2
      omega
theorem permB_iff (p : List Int) : permB p = true ↔ isPerm p := by
  rw [perm_same]
  unfold permSB isPerm
  by_cases h : p.length ≤ 24
  · rw [if_pos h, permS_iff]
    simp [h]
  · rw [if_neg h]
    simp [h]

/-- Which of the numbers below n are on the list. -/
def flagsOf (n : Nat) (q : List Int) : List Bool := (List.range n).map (fun (i : Nat) => decide ((i : Int) ∈ q))
theorem flagsOf_len (n : Nat) (q : List Int) : (flagsOf n q).length = n := by simp [flagsOf]
theorem flagsOf_nil (n : Nat) : flagsOf n [] = List.replicate n false := by
  apply List.ext_getElem?
  intro i
  by_cases h : i < n <;> simp [flagsOf, List.getElem?_replicate, h]
theorem flagsOf_rd (n : Nat) (q : List Int) {x : Int} (h0 : 0 ≤ x) (h1 : x < n) : rdOf false (flagsOf n q) x = decide (x ∈ q) := by
  have e : ((x.toNat : Nat) : Int) = x := by omega
  simp [rdOf, flagsOf, List.getD, show x.toNat < n by omega, e]
theorem flagsOf_set (n : Nat) (q : List Int) {x : Int} (h0 : 0 ≤ x) (h1 : x < n) : (flagsOf n q).set x.toNat true = flagsOf n (q ++ [x]) := by
  apply List.ext_getElem?
  intro i
  have hl : x.toNat < (flagsOf n q).length := by rw [flagsOf_len]; omega
  by_cases h : i = x.toNat
  · subst h
    have e : ((x.toNat : Nat) : Int) = x := by omega
    simp [flagsOf, show x.toNat < n by omega, e]
  · have hne : ((i : Nat) : Int) ≠ x := by omega
    rw [List.getElem?_set_ne (by omega)]
    by_cases hi : i < n <;> simp [flagsOf, hi, hne]
theorem perm_rd {p : List Int} (h : isPerm p) {x : Int} (h0 : 0 ≤ x) (h1 : x < p.length) : 0 ≤ rd p x ∧ rd p x < (p.length : Int) := by
  have e : rd p x = p[x.toNat]'(by omega) := by simp [rd, List.getD, show x.toNat < p.length by omega]
  rw [e]
  exact h.2.1 _ (List.getElem_mem _)

def nbT (r u : List Int) (x : Int) : List Int := [rd r x, rd u x]
theorem nbT_lt {rr u : List Int} (hr : isPerm rr) (hu : isPerm u) (he : rr.length = u.length) {x : Int} (h0 : 0 ≤ x) (h1 : x < rr.length) : ∀ k ∈ nbT rr u x, 0 ≤ k ∧ k < (rr.length : Int) := by
  intro k hk
  have a := perm_rd hr h0 h1
  have b := perm_rd hu h0 (by omega)
  simp only [nbT, List.mem_cons, List.not_mem_nil, or_false] at hk
  rcases hk with rfl | rfl <;> omega
def reachOf (r u : List Int) : List Int := bfs (nbT r u) (r.length + 1) [0] 0
def transB (r u : List Int) : Bool := permB r && permB u && decide (r.length = u.length) && decide (0 < r.length) && ((reachOf r u).length : Int) == (r.length : Int)
theorem few_z {n : Nat} (h : 1 ≤ n) : Few n [0] := ⟨by simp, fun x hx => by simp at hx; subst hx; omega⟩
theorem impl_trans_l1 (rr u : List Int) (n : Nat) (hn : n ≤ 24) (x8 : Int) (hx : 0 ≤ x8 ∧ x8 ≤ 1000) (ys : List Int) (hy : ys.length ≤ 1000) (r : Bool) : ∀ (suf pre q : List Int), ys = pre ++ suf → Few n q → (∀ k ∈ suf, 0 ≤ k ∧ k < (n : Int)) →
    Ev (fun k => impl_IsTransitive.l0 k rr u (flagsOf n (pushAll q suf)) (pushAll q suf) (x8 + 1)) r → Ev (fun k => impl_IsTransitive.l1 k rr u (flagsOf n q) q x8 ys (ys.length : Int) (pre.length : Int)) r := by
  intro suf
  induction suf with
  | nil =>
    intro pre q h hq hk hr
    subst h
    refine ev_up ?_
    simp only [impl_IsTransitive.l1, if_neg (nlt_end pre), pw_wrap (a := x8 + 1) (by omega) (by omega)]
    exact hr
  | cons c suf ih =>
    intro pre q h hq hk hr
    have hc := hk c (by simp)
    have hf := few_push hq hc.2
    have hi := ih (pre ++ [c]) (push q c) (by simp [h]) hf (fun k h' => hk k (by simp [h'])) hr
    subst h
    have hql := few_len hq
    refine ev_up ?_
    simp only [impl_IsTransitive.l1, if_pos (lt_mid pre suf c), if_pos (Int.natCast_nonneg pre.length), rd_mid, wrap_snoc (x := c) (s := suf) (p := pre) (by simp at hy ⊢; omega), if_pos hc.1, flagsOf_len, if_pos hc.2, flagsOf_rd n q hc.1 hc.2]
    by_cases hm : c ∈ q
    · simp only [decide_eq_true hm, if_true]
      unfold push at hi
      rw [if_neg (fun h => h.2 hm)] at hi
      exact hi
    · simp only [decide_eq_false hm, Bool.false_eq_true, if_false, if_pos (show q.length < 17592186044416 by omega), flagsOf_set n q hc.1 hc.2]
      unfold push at hi
      rw [if_pos ⟨hc.1, hm⟩] at hi
      exact hi
theorem impl_trans_l0 {rr u : List Int} (hr : isPerm rr) (hu : isPerm u) (he : rr.length = u.length) : ∀ (f : Nat) (q : List Int) (i : Nat), Few rr.length q → i ≤ q.length → f + i = rr.length + 1 →
    Ev (fun k => impl_IsTransitive.l0 k rr u (flagsOf rr.length q) q (i : Int)) (((bfs (nbT rr u) f q i).length : Int) == (rr.length : Int)) := by
  intro f
  have hn := hr.1
  induction f with
  | zero =>
    intro q i hq hi hf
    have := few_len hq
    omega
  | succ f ih =>
    intro q i hq hi hf
    have hql := few_len hq
    refine ev_up ?_
    by_cases h : i < q.length
    · have hx := hq.2 _ (List.getElem_mem h)
      simp only [impl_IsTransitive.l0, if_pos (show ((i : Nat) : Int) < (q.length : Int) by omega), if_pos (Int.natCast_nonneg i), rd_get q i h, if_pos hx.1, if_pos hx.2, if_pos (show q[i] < (u.length : Int) by omega), Option.bind_some]
      have hlt := nbT_lt hr hu he hx.1 hx.2
      have hp := few_pushAll _ q hq (fun k hk => (hlt k hk).2)
      have := ih _ (i + 1) hp.1 (by have := hp.2; omega) (by omega)
      rw [bfs, dif_pos h]
      exact impl_trans_l1 rr u rr.length hn i (by omega) (nbT rr u q[i]) (by simp [nbT]) _ _ [] q rfl hq hlt this
    · simp only [impl_IsTransitive.l0, if_neg (show ¬ ((i : Nat) : Int) < (q.length : Int) by omega)]
      rw [bfs_done _ _ _ _ h]
      exact Ev.now _
theorem impl_trans (r u : List Int) : Ev (fun k => impl_IsTransitive.f k r u) (transB r u) := by
  unfold impl_IsTransitive.f transB
  have hbad : ∀ b : Bool, b = false → Ev (fun k => impl_IsTransitive.j0 k r u true) b := by
    rintro b rfl
    refine ev_up ?_
    simp only [impl_IsTransitive.j0, if_true]
    exact Ev.now _
  simp only [impl_PermOk.f, Option.bind_some]
  by_cases h1 : permB r = true
  · simp only [h1, if_true, Bool.true_and]
    by_cases h2 : permB u = true
    · simp only [h2, if_true, Bool.true_and]
      by_cases h3 : r.length = u.length
      · simp only [if_pos (show (r.length : Int) = u.length by omega), decide_eq_true h3, Bool.true_and]
        by_cases h4 : 0 < r.length
        · have hn := ((permB_iff r).1 h1).1
          have e : ((r.length : Int) == 0) = false := by simp; intro e; rw [e] at h4; exact absurd h4 (by simp)
          rw [e]
          simp only [decide_eq_true h4, Bool.true_and]
          refine ev_up ?_
          have hset : (List.replicate r.length false).set (0 : Int).toNat true = flagsOf r.length [0] := by
            rw [← flagsOf_nil, flagsOf_set r.length [] (by omega) (by omega)]
            rfl
          simp only [impl_IsTransitive.j0, Bool.false_eq_true, if_false, if_pos (Int.natCast_nonneg r.length), Int.toNat_natCast, if_pos (show r.length ≤ 281474976710656 by omega), Option.bind_some, List.length_replicate, if_pos (show (0 : Int) < (r.length : Int) by omega), hset]
          exact impl_trans_l0 ((permB_iff r).1 h1) ((permB_iff u).1 h2) h3 _ [0] 0 (few_z h4) (by simp) (by omega)
        · have e : ((r.length : Int) == 0) = true := by
            have : r.length = 0 := by omega
            rw [this]; rfl
          rw [e]
          simp only [decide_eq_false h4, Bool.false_and]
          exact hbad _ rfl
      · simp only [if_neg (show ¬ (r.length : Int) = u.length by omega), decide_eq_false h3, Bool.false_and]
        exact hbad _ rfl
    · simp only [Bool.eq_false_iff.2 h2, Bool.false_eq_true, if_false, Bool.false_and]
      exact hbad _ rfl
  · simp only [Bool.eq_false_iff.2 h1, Bool.false_eq_true, if_false, Bool.false_and]
    exact hbad _ rfl
theorem transB_side {r u : List Int} (h : transB r u = true) : isPerm r ∧ isPerm u ∧ r.length = u.length ∧ 0 < r.length ∧ (reachOf r u).length = r.length := by
  unfold transB at h
  simp only [Bool.and_eq_true, decide_eq_true_eq, beq_iff_eq] at h
  obtain ⟨⟨⟨⟨h1, h2⟩, h3⟩, h4⟩, h5⟩ := h
  exact ⟨(permB_iff r).1 h1, (permB_iff u).1 h2, h3, h4, by omega⟩
theorem impl_surfOk (r u : List Int) : Ev (fun k => impl_SurfaceOk.f k r u) (transB r u) := Ev.bind (impl_trans r u) (Ev.now _)

theorem dirX_bd {k : Int} (h0 : 0 ≤ k) (h1 : k < 4) : 0 ≤ k + dirX k ∧ k + dirX k < 4 ∧ dirX (k + dirX k) = -dirX k ∧ (dirX k = 1 ∨ dirX k = -1) := by
  unfold dirX
  have : k = 0 ∨ k = 1 ∨ k = 2 ∨ k = 3 := by omega
  rcases this with rfl | rfl | rfl | rfl <;> decide
theorem dirY_bd {k : Int} (h0 : 0 ≤ k) (h1 : k < 4) : 0 ≤ k + dirY k * 2 ∧ k + dirY k * 2 < 4 ∧ dirY (k + dirY k * 2) = -dirY k ∧ (dirY k = 1 ∨ dirY k = -1) := by
  unfold dirY
  have : k = 0 ∨ k = 1 ∨ k = 2 ∨ k = 3 := by omega
  rcases this with rfl | rfl | rfl | rfl <;> decide
abbrev cx (l : List Cl) (i : Int) : Int := (rd_T69 l i).f0
abbrev cy (l : List Cl) (i : Int) : Int := (rd_T69 l i).f1
/-- A step in a direction, or the flip. -/
def stepX (l : List Cl) (s : Int) (i k : Int) : Int := if cellAt l (cx l i + s) (cy l i) < 0 then 4 * i + (k + dirX k) else 4 * cellAt l (cx l i + s) (cy l i) + k
def stepY (l : List Cl) (s : Int) (i k : Int) : Int := if cellAt l (cx l i) (cy l i + s) < 0 then 4 * i + (k + dirY k * 2) else 4 * cellAt l (cx l i) (cy l i + s) + k
theorem gR_form (l : List Cl) {i k : Int} (h0 : 0 ≤ k) (h1 : k < 4) : gR l (4 * i + k) = stepX l (dirX k) i k := by
  have e1 : (4 * i + k) / 4 = i := by omega
  have e2 : (4 * i + k) % 4 = k := by omega
  unfold gR stepX cx cy
  simp only [e1, e2]
  split <;> omega
theorem gU_form (l : List Cl) {i k : Int} (h0 : 0 ≤ k) (h1 : k < 4) : gU l (4 * i + k) = stepY l (dirY k) i k := by
  have e1 : (4 * i + k) / 4 = i := by omega
  have e2 : (4 * i + k) % 4 = k := by omega
  unfold gU stepY cx cy
  simp only [e1, e2]
  split <;> omega
/-- The way back. -/
def backX (l : List Cl) (x : Int) : Int := stepX l (-dirX (x % 4)) (x / 4) (x % 4)
def backY (l : List Cl) (x : Int) : Int := stepY l (-dirY (x % 4)) (x / 4) (x % 4)
theorem backX_gR {l : List Cl} (hv : vGo none l = true) {x : Int} (h0 : 0 ≤ x) (h1 : x < 4 * l.length) : backX l (gR l x) = x := by
  obtain ⟨i, k, rfl, i0, i1, k0, k1⟩ : ∃ i k : Int, x = 4 * i + k ∧ 0 ≤ i ∧ i < l.length ∧ 0 ≤ k ∧ k < 4 := ⟨x / 4, x % 4, by omega, by omega, by omega, by omega, by omega⟩
  obtain ⟨d0, d1, d2, d3⟩ := dirX_bd k0 k1
  rw [gR_form l k0 k1]
  unfold stepX
  by_cases hj : cellAt l (cx l i + dirX k) (cy l i) < 0
  · rw [if_pos hj]
    unfold backX stepX
    rw [show (4 * i + (k + dirX k)) / 4 = i from by omega, show (4 * i + (k + dirX k)) % 4 = k + dirX k from by omega, d2, show - -dirX k = dirX k from by omega, if_pos hj]
    omega
  · rw [if_neg hj]
    have hh := cellAt_hit (l := l) (x := cx l i + dirX k) (y := cy l i) (by omega)
    have hb := cellAt_bd l (cx l i + dirX k) (cy l i)
    have hs := cellAt_self hv i0 i1
    generalize hJ : cellAt l (cx l i + dirX k) (cy l i) = j at *
    unfold backX stepX cx cy
    rw [show (4 * j + k) / 4 = j from by omega, show (4 * j + k) % 4 = k from by omega, hh.1, hh.2]
    rw [show cx l i + dirX k + -dirX k = cx l i from by omega, hs, if_neg (by omega)]
theorem backY_gU {l : List Cl} (hv : vGo none l = true) {x : Int} (h0 : 0 ≤ x) (h1 : x < 4 * l.length) : backY l (gU l x) = x := by
  obtain ⟨i, k, rfl, i0, i1, k0, k1⟩ : ∃ i k : Int, x = 4 * i + k ∧ 0 ≤ i ∧ i < l.length ∧ 0 ≤ k ∧ k < 4 := ⟨x / 4, x % 4, by omega, by omega, by omega, by omega, by omega⟩
  obtain ⟨d0, d1, d2, d3⟩ := dirY_bd k0 k1
  rw [gU_form l k0 k1]
  unfold stepY
  by_cases hj : cellAt l (cx l i) (cy l i + dirY k) < 0
  · rw [if_pos hj]
    unfold backY stepY
    rw [show (4 * i + (k + dirY k * 2)) / 4 = i from by omega, show (4 * i + (k + dirY k * 2)) % 4 = k + dirY k * 2 from by omega, d2, show - -dirY k = dirY k from by omega, if_pos hj]
    omega
  · rw [if_neg hj]
    have hh := cellAt_hit (l := l) (x := cx l i) (y := cy l i + dirY k) (by omega)
    have hb := cellAt_bd l (cx l i) (cy l i + dirY k)
    have hs := cellAt_self hv i0 i1
    generalize hJ : cellAt l (cx l i) (cy l i + dirY k) = j at *
    unfold backY stepY cx cy
    rw [show (4 * j + k) / 4 = j from by omega, show (4 * j + k) % 4 = k from by omega, hh.1, hh.2]
    rw [show cy l i + dirY k + -dirY k = cy l i from by omega, hs, if_neg (by omega)]
theorem gR_bd {l : List Cl} {x : Int} (h0 : 0 ≤ x) (h1 : x < 4 * l.length) : 0 ≤ gR l x ∧ gR l x < 4 * l.length := by
  obtain ⟨i, k, rfl, i0, i1, k0, k1⟩ : ∃ i k : Int, x = 4 * i + k ∧ 0 ≤ i ∧ i < l.length ∧ 0 ≤ k ∧ k < 4 := ⟨x / 4, x % 4, by omega, by omega, by omega, by omega, by omega⟩
  obtain ⟨d0, d1, _⟩ := dirX_bd k0 k1
  rw [gR_form l k0 k1]
  have hb := cellAt_bd l (cx l i + dirX k) (cy l i)
  unfold stepX
  split <;> omega
theorem gU_bd {l : List Cl} {x : Int} (h0 : 0 ≤ x) (h1 : x < 4 * l.length) : 0 ≤ gU l x ∧ gU l x < 4 * l.length := by
  obtain ⟨i, k, rfl, i0, i1, k0, k1⟩ : ∃ i k : Int, x = 4 * i + k ∧ 0 ≤ i ∧ i < l.length ∧ 0 ≤ k ∧ k < 4 := ⟨x / 4, x % 4, by omega, by omega, by omega, by omega, by omega⟩
  obtain ⟨d0, d1, _⟩ := dirY_bd k0 k1
  rw [gU_form l k0 k1]
  have hb := cellAt_bd l (cx l i) (cy l i + dirY k)
  unfold stepY
  split <;> omega
theorem mem_vals (g : Int → Int) (y : Int) : ∀ (d : Nat) (s : Int), y ∈ vals g d s ↔ ∃ x, s ≤ x ∧ x < s + d ∧ y = g x
  | 0, s => by
    simp only [vals, List.not_mem_nil, false_iff]
    rintro ⟨x, h0, h1, _⟩
    omega
  | d + 1, s => by
    rw [vals, List.mem_cons, mem_vals g y d (s + 1)]
    constructor
    · rintro (rfl | ⟨x, h0, h1, rfl⟩)
      · exact ⟨s, by omega, by omega, rfl⟩
      · exact ⟨x, by omega, by omega, rfl⟩
    · rintro ⟨x, h0, h1, rfl⟩
      by_cases hx : x = s
      · exact .inl (by rw [hx])
      · exact .inr ⟨x, by omega, by omega, rfl⟩
theorem vals_nodup (g : Int → Int) : ∀ (d : Nat) (s : Int), (∀ x y, s ≤ x → x < s + d → s ≤ y → y < s + d → g x = g y → x = y) → (vals g d s).Nodup
  | 0, _, _ => List.nodup_nil
  | d + 1, s, h => by
    rw [vals, List.nodup_cons]
    refine ⟨fun hm => ?_, vals_nodup g d (s + 1) (fun x y a b c e he => h x y (by omega) (by omega) (by omega) (by omega) he)⟩
    obtain ⟨x, h0, h1, e⟩ := (mem_vals g _ d (s + 1)).1 hm
    have := h s x (by omega) (by omega) (by omega) (by omega) e
    omega
theorem rd_vals (g : Int → Int) : ∀ (d : Nat) (s : Int) (i : Nat), i < d → rd (vals g d s) (i : Int) = g (s + i)
  | 0, _, i, h => absurd h (by omega)
  | d + 1, s, 0, _ => by simp [vals, rd, List.getD]
  | d + 1, s, i + 1, h => by
    have := rd_vals g d (s + 1) i (by omega)
    have e : rd (vals g (d + 1) s) ((i + 1 : Nat) : Int) = rd (vals g d (s + 1)) (i : Int) := by
      simp only [rd, vals]
      rw [show (((i + 1 : Nat) : Int)).toNat = i + 1 from by omega, show ((i : Int)).toNat = i from by omega]
      rfl
    rw [e, this]
    congr 1
    omega
theorem unfR_perm {l : List Cl} (h : tableB l = true) : isPerm (unfR l) := by
  obtain ⟨hn, _, hv, _⟩ := tableB_side h
  have e : (unfR l).length = 4 * l.length := vals_len _ _ _
  refine ⟨by omega, fun x hx => ?_, ?_⟩
  · obtain ⟨y, h0, h1, rfl⟩ := (mem_vals _ _ _ _).1 hx
    have := gR_bd (l := l) (x := y) h0 (by omega)
    omega
  · refine vals_nodup _ _ _ (fun x y a b c d hxy => ?_)
    have p := backX_gR hv (x := x) a (by omega)
    have q := backX_gR hv (x := y) c (by omega)
    rw [← p, ← q, hxy]
theorem unfU_perm {l : List Cl} (h : tableB l = true) : isPerm (unfU l) := by
  obtain ⟨hn, _, hv, _⟩ := tableB_side h
  have e : (unfU l).length = 4 * l.length := vals_len _ _ _
  refine ⟨by omega, fun x hx => ?_, ?_⟩
  · obtain ⟨y, h0, h1, rfl⟩ := (mem_vals _ _ _ _).1 hx
    have := gU_bd (l := l) (x := y) h0 (by omega)
    omega
  · refine vals_nodup _ _ _ (fun x y a b c d hxy => ?_)
    have p := backY_gU hv (x := x) a (by omega)
    have q := backY_gU hv (x := y) c (by omega)
    rw [← p, ← q, hxy]

theorem sub_len : ∀ (l m : List Int), l.Nodup → (∀ x ∈ l, x ∈ m) → l.length ≤ m.length
  | [], _, _, _ => by simp
  | x :: l, m, hn, h => by
    have hn2 := List.nodup_cons.1 hn
    have := sub_len l (m.erase x) hn2.2 (fun y hy => (List.mem_erase_of_ne (fun (e : y = x) => hn2.1 (by rw [← e]; exact hy))).2 (h y (List.mem_cons_of_mem _ hy)))
    have hm := h x List.mem_cons_self
    rw [List.length_erase_of_mem hm] at this
    have := List.length_pos_of_mem hm
    simp only [List.length_cons]
    omega
theorem sub_back {l m : List Int} (hn : l.Nodup) (hl : l.length = m.length) (h : ∀ x ∈ l, x ∈ m) : ∀ x ∈ m, x ∈ l := by
  intro x hx
  refine Classical.byContradiction fun hc => ?_
  have := sub_len (x :: l) m (List.nodup_cons.2 ⟨hc, hn⟩) (fun y hy => by
    rcases List.mem_cons.1 hy with rfl | hy
    · exact hx
    · exact h y hy)
  simp at this
  omega
theorem few_all {n : Nat} {q : List Int} (h : Few n q) (hl : q.length = n) {x : Int} (h0 : 0 ≤ x) (h1 : x < (n : Int)) : x ∈ q := by
  refine Classical.byContradiction fun hc => ?_
  have hf : Few n (x :: q) := ⟨List.nodup_cons.2 ⟨hc, h.1⟩, fun y hy => by
    rcases List.mem_cons.1 hy with rfl | hy
    · exact ⟨h0, h1⟩
    · exact h.2 y hy⟩
  have := few_len hf
  simp only [List.length_cons] at this
  omega
theorem adjX {l : List Cl} (hv : vGo none l = true) (P : Int → Prop) (hR : ∀ x : Int, 0 ≤ x → x < 4 * l.length → (P x ↔ P (gR l x))) {i k s : Int} (i0 : 0 ≤ i) (i1 : i < l.length) (k0 : 0 ≤ k) (k1 : k < 4) (hs : s = 1 ∨ s = -1) (hj : 0 ≤ cellAt l (cx l i + s) (cy l i)) :
    P (4 * i + k) ↔ P (4 * cellAt l (cx l i + s) (cy l i) + k) := by
  obtain ⟨_, _, _, d3⟩ := dirX_bd k0 k1
  have hh := cellAt_hit (l := l) (x := cx l i + s) (y := cy l i) hj
  have hb := cellAt_bd l (cx l i + s) (cy l i)
  have hself := cellAt_self hv i0 i1
  by_cases hd : dirX k = s
  · rw [hR (4 * i + k) (by omega) (by omega), gR_form l k0 k1, stepX, hd, if_neg (by omega)]
  · have hd2 : dirX k = -s := by omega
    generalize hJ : cellAt l (cx l i + s) (cy l i) = j at *
    rw [hR (4 * j + k) (by omega) (by omega), gR_form l k0 k1, stepX, hd2]
    have e1 : cx l j = cx l i + s := hh.1
    have e2 : cy l j = cy l i := hh.2
    have e3 : cellAt l (cx l i) (cy l i) = i := hself
    rw [e1, e2, show cx l i + s + -s = cx l i from by omega, e3, if_neg (by omega)]
theorem adjY {l : List Cl} (hv : vGo none l = true) (P : Int → Prop) (hU : ∀ x : Int, 0 ≤ x → x < 4 * l.length → (P x ↔ P (gU l x))) {i k s : Int} (i0 : 0 ≤ i) (i1 : i < l.length) (k0 : 0 ≤ k) (k1 : k < 4) (hs : s = 1 ∨ s = -1) (hj : 0 ≤ cellAt l (cx l i) (cy l i + s)) :
    P (4 * i + k) ↔ P (4 * cellAt l (cx l i) (cy l i + s) + k) := by
  obtain ⟨_, _, _, d3⟩ := dirY_bd k0 k1
  have hh := cellAt_hit (l := l) (x := cx l i) (y := cy l i + s) hj
  have hb := cellAt_bd l (cx l i) (cy l i + s)
  have hself := cellAt_self hv i0 i1
  by_cases hd : dirY k = s
  · rw [hU (4 * i + k) (by omega) (by omega), gU_form l k0 k1, stepY, hd, if_neg (by omega)]
  · have hd2 : dirY k = -s := by omega
    generalize hJ : cellAt l (cx l i) (cy l i + s) = j at *
    rw [hU (4 * j + k) (by omega) (by omega), gU_form l k0 k1, stepY, hd2]
    have e1 : cx l j = cx l i := hh.1
    have e2 : cy l j = cy l i + s := hh.2
    have e3 : cellAt l (cx l i) (cy l i) = i := hself
    rw [e1, e2, show cy l i + s + -s = cy l i from by omega, e3, if_neg (by omega)]
theorem adjN {l : List Cl} (hv : vGo none l = true) (P : Int → Prop) (hR : ∀ x : Int, 0 ≤ x → x < 4 * l.length → (P x ↔ P (gR l x))) (hU : ∀ x : Int, 0 ≤ x → x < 4 * l.length → (P x ↔ P (gU l x))) {i k j : Int} (i0 : 0 ≤ i) (i1 : i < l.length) (k0 : 0 ≤ k) (k1 : k < 4) (hj : j ∈ nbrs l i) (j0 : 0 ≤ j) :
    P (4 * i + k) ↔ P (4 * j + k) := by
  simp only [nbrs, List.mem_cons, List.not_mem_nil, or_false] at hj
  rcases hj with rfl | rfl | rfl | rfl
  · exact adjX hv P hR i0 i1 k0 k1 (.inl rfl) j0
  · exact adjX hv P hR i0 i1 k0 k1 (.inr rfl) j0
  · exact adjY hv P hU i0 i1 k0 k1 (.inl rfl) j0
  · exact adjY hv P hU i0 i1 k0 k1 (.inr rfl) j0
/-- All copies of a kind are in, or none. -/
theorem sheet {l : List Cl} (h : tableB l = true) (P : Int → Prop) (hR : ∀ x : Int, 0 ≤ x → x < 4 * l.length → (P x ↔ P (gR l x))) (hU : ∀ x : Int, 0 ≤ x → x < 4 * l.length → (P x ↔ P (gU l x))) {i k : Int} (i0 : 0 ≤ i) (i1 : i < l.length) (k0 : 0 ≤ k) (k1 : k < 4) :
    P (4 * i + k) ↔ P k := by
  obtain ⟨hn, _, hv, hw⟩ := tableB_side h
  have hfew : Few l.length (bfs (nbrs l) (l.length + 1) [0] 0) := bfs_few (nbrs l) (fun x _ _ => nbrs_lt l x) _ _ _ (few_zero hn.1)
  have hlen : (bfs (nbrs l) (l.length + 1) [0] 0).length = l.length := by
    simp only [whole, beq_iff_eq] at hw
    omega
  have hi := few_all hfew hlen i0 i1
  have hall := bfs_sub (nbrs l) (fun x => (0 ≤ x ∧ x < l.length) ∧ (P (4 * x + k) ↔ P k)) (fun x hx j hj j0 => by
    refine ⟨⟨j0, nbrs_lt l x j hj⟩, ?_⟩
    rw [← adjN hv P hR hU hx.1.1 hx.1.2 k0 k1 hj j0]
    exact hx.2) (l.length + 1) [0] 0 (fun x hx => by
      simp only [List.mem_singleton] at hx
      subst hx
      exact ⟨⟨by omega, by omega⟩, by simp⟩)
  exact (hall i hi).2
/-- There is a cell with nothing to the right, and one with nothing above. -/
theorem edgeX {l : List Cl} (hn : 1 ≤ l.length) (hv : Near0 l) : ∃ i : Int, 0 ≤ i ∧ i < l.length ∧ cellAt l (cx l i + 1) (cy l i) < 0 := by
  refine Classical.byContradiction fun hc => ?_
  have hall : ∀ i : Int, 0 ≤ i → i < l.length → 0 ≤ cellAt l (cx l i + 1) (cy l i) := fun i h0 h1 => by
    refine Classical.byContradiction fun h2 => hc ⟨i, h0, h1, by omega⟩
  have hm : ∀ m : Nat, ∃ i : Int, 0 ≤ i ∧ i < l.length ∧ (m : Int) ≤ cx l i := by
    intro m
    induction m with
    | zero => exact ⟨0, by omega, by omega, by have := near_rd hv (i := 0) (by omega) (by omega); exact this.1⟩
    | succ m ih =>
      obtain ⟨i, h0, h1, h2⟩ := ih
      have hj := hall i h0 h1
      have hh := cellAt_hit hj
      refine ⟨_, hj, (cellAt_bd l _ _).2, ?_⟩
      have e : cx l (cellAt l (cx l i + 1) (cy l i)) = cx l i + 1 := hh.1
      omega
  obtain ⟨i, h0, h1, h2⟩ := hm 10
  have hr : cx l i ≤ 9 := (near_rd hv h0 h1).2.1
  omega
theorem edgeY {l : List Cl} (hn : 1 ≤ l.length) (hv : Near0 l) : ∃ i : Int, 0 ≤ i ∧ i < l.length ∧ cellAt l (cx l i) (cy l i + 1) < 0 := by
  refine Classical.byContradiction fun hc => ?_
  have hall : ∀ i : Int, 0 ≤ i → i < l.length → 0 ≤ cellAt l (cx l i) (cy l i + 1) := fun i h0 h1 => by
    refine Classical.byContradiction fun h2 => hc ⟨i, h0, h1, by omega⟩
  have hm : ∀ m : Nat, ∃ i : Int, 0 ≤ i ∧ i < l.length ∧ (m : Int) ≤ cy l i := by
    intro m
    induction m with
    | zero => exact ⟨0, by omega, by omega, by have := near_rd hv (i := 0) (by omega) (by omega); exact this.2.2.1⟩
    | succ m ih =>
      obtain ⟨i, h0, h1, h2⟩ := ih
      have hj := hall i h0 h1
      have hh := cellAt_hit hj
      refine ⟨_, hj, (cellAt_bd l _ _).2, ?_⟩
      have e : cy l (cellAt l (cx l i) (cy l i + 1)) = cy l i + 1 := hh.2
      omega
  obtain ⟨i, h0, h1, h2⟩ := hm 10
  have hr : cy l i ≤ 9 := (near_rd hv h0 h1).2.2.2
  omega
/-- A set with the first copy that both steps keep is everything. -/
theorem sheets_all {l : List Cl} (h : tableB l = true) (P : Int → Prop) (hR : ∀ x : Int, 0 ≤ x → x < 4 * l.length → (P x ↔ P (gR l x))) (hU : ∀ x : Int, 0 ≤ x → x < 4 * l.length → (P x ↔ P (gU l x))) (hP : P 0) {x : Int} (h0 : 0 ≤ x) (h1 : x < 4 * l.length) : P x := by
  obtain ⟨hn, hv, _, _⟩ := tableB_side h
  have sh : ∀ i k : Int, 0 ≤ i → i < l.length → 0 ≤ k → k < 4 → (P (4 * i + k) ↔ P k) := fun i k a b c d => sheet h P hR hU a b c d
  obtain ⟨a, a0, a1, ha⟩ := edgeX hn.1 hv
  obtain ⟨b, b0, b1, hb⟩ := edgeY hn.1 hv
  have flipX : ∀ k : Int, 0 ≤ k → k < 4 → dirX k = 1 → (P k ↔ P (k + 1)) := fun k k0 k1 hk => by
    have := dirX_bd k0 k1
    rw [← sh a k a0 a1 k0 k1, hR _ (by omega) (by omega), gR_form l k0 k1, stepX, hk, if_pos ha, sh a (k + 1) a0 a1 (by omega) (by omega)]
  have flipY : ∀ k : Int, 0 ≤ k → k < 4 → dirY k = 1 → (P k ↔ P (k + 2)) := fun k k0 k1 hk => by
    have := dirY_bd k0 k1
    rw [← sh b k b0 b1 k0 k1, hU _ (by omega) (by omega), gU_form l k0 k1, stepY, hk, if_pos hb, show k + 1 * 2 = k + 2 from by omega, sh b (k + 2) b0 b1 (by omega) (by omega)]
  have p1 : P 1 := (flipX 0 (by omega) (by omega) rfl).1 hP
  have p2 : P 2 := (flipY 0 (by omega) (by omega) rfl).1 hP
  have p3 : P 3 := (flipX 2 (by omega) (by omega) rfl).1 p2
  have e : x = 4 * (x / 4) + x % 4 := by omega
  rw [e, sh (x / 4) (x % 4) (by omega) (by omega) (by omega) (by omega)]
  have hk : x % 4 = 0 ∨ x % 4 = 1 ∨ x % 4 = 2 ∨ x % 4 = 3 := by omega
  rcases hk with hk | hk | hk | hk <;> rw [hk] <;> assumption
/-- A finite set that a one-to-one step does not leave is not left backwards either. -/
theorem back_closed {n : Nat} {q : List Int} (hq : Few n q) (g : Int → Int) (hg : ∀ x y : Int, 0 ≤ x → x < n → 0 ≤ y → y < n → g x = g y → x = y) (hc : ∀ x ∈ q, g x ∈ q) {x : Int} (h0 : 0 ≤ x) (h1 : x < n) (hx : g x ∈ q) : x ∈ q := by
  have hn : (q.map g).Nodup := by
    have : ∀ q : List Int, (∀ x ∈ q, 0 ≤ x ∧ x < (n : Int)) → q.Nodup → (q.map g).Nodup := by
      intro q
      induction q with
      | nil => intro _ _; exact List.nodup_nil
      | cons y q ih =>
        intro hb hn
        have hn2 := List.nodup_cons.1 hn
        rw [List.map_cons, List.nodup_cons]
        refine ⟨fun hm => ?_, ih (fun z hz => hb z (List.mem_cons_of_mem _ hz)) hn2.2⟩
        obtain ⟨z, hz, e⟩ := List.mem_map.1 hm
        have b1 := hb z (List.mem_cons_of_mem _ hz)
        have b2 := hb y List.mem_cons_self
        have := hg z y b1.1 b1.2 b2.1 b2.2 e
        subst this
        exact hn2.1 hz
    exact this q hq.2 hq.1
  have hm := sub_back hn (List.length_map ..) (fun z hz => by
    obtain ⟨y, hy, rfl⟩ := List.mem_map.1 hz
    exact hc y hy) _ hx
  obtain ⟨y, hy, e⟩ := List.mem_map.1 hm
  have b := hq.2 y hy
  have := hg y x b.1 b.2 h0 h1 e
  subst this
  exact hy
/-- The unfolded table is a surface. -/
theorem unf_trans {l : List Cl} (h : tableB l = true) : transB (unfR l) (unfU l) = true := by
  obtain ⟨hn, _, hv, _⟩ := tableB_side h
  have pr := unfR_perm h
  have pu := unfU_perm h
  have er : (unfR l).length = 4 * l.length := vals_len _ _ _
  have eu : (unfU l).length = 4 * l.length := vals_len _ _ _
  have rr : ∀ x : Int, 0 ≤ x → x < 4 * l.length → rd (unfR l) x = gR l x := fun x h0 h1 => by
    obtain ⟨i, rfl⟩ := Int.eq_ofNat_of_zero_le h0
    have := rd_vals (gR l) (4 * l.length) 0 i (by omega)
    rw [Int.zero_add] at this
    exact this
  have ru : ∀ x : Int, 0 ≤ x → x < 4 * l.length → rd (unfU l) x = gU l x := fun x h0 h1 => by
    obtain ⟨i, rfl⟩ := Int.eq_ofNat_of_zero_le h0
    have := rd_vals (gU l) (4 * l.length) 0 i (by omega)
    rw [Int.zero_add] at this
    exact this
  have hnb : ∀ x : Int, 0 ≤ x → x < ((unfR l).length : Int) → ∀ k ∈ nbT (unfR l) (unfU l) x, k < ((unfR l).length : Int) := fun x h0 h1 k hk => (nbT_lt pr pu (by omega) h0 h1 k hk).2
  have hf0 := few_zero (n := (unfR l).length) (by omega)
  have hfew : Few (unfR l).length (reachOf (unfR l) (unfU l)) := bfs_few _ hnb _ _ _ hf0
  have hcl : ∀ x ∈ reachOf (unfR l) (unfU l), ∀ k ∈ nbT (unfR l) (unfU l) x, 0 ≤ k → k ∈ reachOf (unfR l) (unfU l) := bfs_closed _ hnb _ _ _ hf0 rfl (fun j hj hji => absurd hji (by omega))
  have hbd : ∀ x ∈ reachOf (unfR l) (unfU l), 0 ≤ x ∧ x < 4 * l.length := fun x hx => by have := hfew.2 x hx; omega
  have cR : ∀ x ∈ reachOf (unfR l) (unfU l), gR l x ∈ reachOf (unfR l) (unfU l) := fun x hx => by
    have b := hbd x hx
    rw [← rr x b.1 b.2]
    refine hcl x hx _ (by simp [nbT]) ?_
    rw [rr x b.1 b.2]
    exact (gR_bd b.1 b.2).1
  have cU : ∀ x ∈ reachOf (unfR l) (unfU l), gU l x ∈ reachOf (unfR l) (unfU l) := fun x hx => by
    have b := hbd x hx
    rw [← ru x b.1 b.2]
    refine hcl x hx _ (by simp [nbT]) ?_
    rw [ru x b.1 b.2]
    exact (gU_bd b.1 b.2).1
  have iR : ∀ x y : Int, 0 ≤ x → x < ((unfR l).length : Int) → 0 ≤ y → y < ((unfR l).length : Int) → gR l x = gR l y → x = y := fun x y a b c d e => by
    rw [← backX_gR hv (x := x) a (by omega), ← backX_gR hv (x := y) c (by omega), e]
  have iU : ∀ x y : Int, 0 ≤ x → x < ((unfR l).length : Int) → 0 ≤ y → y < ((unfR l).length : Int) → gU l x = gU l y → x = y := fun x y a b c d e => by
    rw [← backY_gU hv (x := x) a (by omega), ← backY_gU hv (x := y) c (by omega), e]
  have h0m : (0 : Int) ∈ reachOf (unfR l) (unfU l) := by
    obtain ⟨s, hs⟩ := bfs_pre (nbT (unfR l) (unfU l)) ((unfR l).length + 1) [0] 0
    unfold reachOf
    rw [hs]
    simp
  have hall : ∀ x : Int, 0 ≤ x → x < 4 * l.length → x ∈ reachOf (unfR l) (unfU l) := fun x a b =>
    sheets_all h (fun x => x ∈ reachOf (unfR l) (unfU l)) (fun x a b => ⟨cR x, back_closed hfew (gR l) iR cR a (by omega)⟩) (fun x a b => ⟨cU x, back_closed hfew (gU l) iU cU a (by omega)⟩) h0m a b
  have hlen := sub_len (vals (fun x => x) (4 * l.length) 0) (reachOf (unfR l) (unfU l)) (vals_nodup _ _ _ (fun x y _ _ _ _ e => e)) (fun x hx => by
    obtain ⟨y, a, b, e⟩ := (mem_vals _ _ _ _).1 hx
    rw [e]
    exact hall y a (by omega))
  rw [vals_len] at hlen
  have hle := few_len hfew
  unfold transB
  rw [(permB_iff _).2 pr, (permB_iff _).2 pu, decide_eq_true (show (unfR l).length = (unfU l).length by omega), decide_eq_true (show 0 < (unfR l).length by omega), show (reachOf (unfR l) (unfU l)).length = (unfR l).length from by omega]
  simp

def ltC (p c : Cl) : Prop := p.f1 < c.f1 ∨ p.f1 = c.f1 ∧ p.f0 < c.f0
theorem vGo_of : ∀ (l : List Cl) (o : Option Cl), Near0 l → l.Pairwise ltC → (∀ p, o = some p → ∀ c ∈ l, ltC p c) → vGo o l = true
  | [], o, _, _, _ => by cases o <;> rfl
  | c :: cs, o, hn, hp, ho => by
    have hc := hn c (by simp)
    have hp2 := List.pairwise_cons.1 hp
    have ih := vGo_of cs (some c) (fun d hd => hn d (by simp [hd])) hp2.2 (fun p e d hd => by cases e; exact hp2.1 d hd)
    cases o with
    | none => simp only [vGo, decide_eq_true (show 0 ≤ c.f0 ∧ c.f0 ≤ 9 from ⟨hc.1, hc.2.1⟩), decide_eq_true (show 0 ≤ c.f1 ∧ c.f1 ≤ 9 from ⟨hc.2.2.1, hc.2.2.2⟩), ih, Bool.and_self]
    | some p =>
      have h := ho p rfl c (by simp)
      unfold ltC at h
      simp only [vGo, decide_eq_true (show 0 ≤ c.f0 ∧ c.f0 ≤ 9 from ⟨hc.1, hc.2.1⟩), decide_eq_true (show 0 ≤ c.f1 ∧ c.f1 ≤ 9 from ⟨hc.2.2.1, hc.2.2.2⟩), ih, decide_eq_false (show ¬ (c.f1 < p.f1 ∨ c.f1 = p.f1 ∧ c.f0 ≤ p.f0) by omega), Bool.not_false, Bool.and_self]
theorem insert_l0 (x : Cl) : ∀ (n : Nat) (l1 l2 : List Cl), l1.length = n → l1.length + l2.length ≤ 100 → (∀ c ∈ l2, ltC x c) →
    ∃ m1 m2, Ev (fun k => spec_l15Insert.l0 k (l1 ++ x :: l2) (l1.length : Int) x.f0 x.f1) (m1 ++ x :: m2) ∧ m1 ++ m2 = l1 ++ l2 ∧ (∀ c ∈ m2, ltC x c) ∧ (∀ q p, m1 = q ++ [p] → ¬ ltC x p)
  | 0, l1, l2, hn, hl, h2 => by
    have : l1 = [] := List.eq_nil_of_length_eq_zero hn
    subst this
    refine ⟨[], l2, ev_up ?_, rfl, h2, fun q p e => by simp at e⟩
    simp only [spec_l15Insert.l0, List.length_nil, Int.natCast_zero, if_neg (show ¬ (0 : Int) > 0 by omega)]
    exact Ev.now _
  | n + 1, l1, l2, hn, hl, h2 => by
    rcases nil_or_snoc l1 with rfl | ⟨q, p, rfl⟩
    · simp at hn
    · have hq : q.length = n := by simpa using hn
      have hlen : ((q ++ [p]).length : Int) = (q.length : Int) + 1 := by simp
      simp only [List.length_append, List.length_cons, List.length_nil] at hl
      have hw : wrap64 ((q.length : Int) + 1 - 1) = (q.length : Int) := by rw [pw_wrap (by omega) (by omega)]; omega
      have hall : (((q ++ [p]) ++ x :: l2).length : Int) = (q.length : Int) + l2.length + 2 := by simp; omega
      have hr : rd_T69 ((q ++ [p]) ++ x :: l2) (q.length : Int) = p := by
        rw [List.append_assoc]
        exact rdT_mid q (x :: l2) p
      have hset : (((q ++ [p]) ++ x :: l2).set ((q.length : Int) + 1).toNat p).set ((q.length : Int)).toNat x = q ++ x :: p :: l2 := by
        rw [show ((q.length : Int) + 1).toNat = (q ++ [p]).length from by rw [List.length_append]; simp only [List.length_cons, List.length_nil]; omega, show ((q.length : Int)).toNat = q.length from by omega]
        simp
      have go : ltC x p → ∃ m1 m2, Ev (fun k => spec_l15Insert.l0 k (q ++ x :: p :: l2) (q.length : Int) x.f0 x.f1) (m1 ++ x :: m2) ∧ m1 ++ m2 = (q ++ [p]) ++ l2 ∧ (∀ c ∈ m2, ltC x c) ∧ (∀ q p, m1 = q ++ [p] → ¬ ltC x p) := fun hlt => by
        obtain ⟨m1, m2, h, e, a, b⟩ := insert_l0 x n q (p :: l2) hq (by simp; omega) (fun c hc => by
          rcases List.mem_cons.1 hc with rfl | hc
          · exact hlt
          · exact h2 c hc)
        exact ⟨m1, m2, h, by rw [e]; simp, a, b⟩
      have stop : ¬ ltC x p → ∀ q' p', (q ++ [p]) = q' ++ [p'] → ¬ ltC x p' := fun hn q' p' e => by
        have := (List.append_inj' e rfl).2
        simp only [List.cons.injEq, and_true] at this
        rw [← this]
        exact hn
      by_cases h3 : p.f1 > x.f1
      · obtain ⟨m1, m2, h, e, a, b⟩ := go (.inl h3)
        refine ⟨m1, m2, ev_up ?_, e, a, b⟩
        simp only [spec_l15Insert.l0, hlen, if_pos (show (q.length : Int) + 1 > 0 by omega), hw, if_pos (Int.natCast_nonneg q.length), hall, if_pos (show (q.length : Int) < (q.length : Int) + l2.length + 2 by omega), hr, if_pos h3, if_pos (show 0 ≤ (q.length : Int) + 1 by omega), if_pos (show (q.length : Int) + 1 < (q.length : Int) + l2.length + 2 by omega)]
        rw [show (⟨p.f0, p.f1⟩ : Cl) = p from rfl, show (⟨x.f0, x.f1⟩ : Cl) = x from rfl, hset]
        exact h
      · by_cases h4 : p.f1 = x.f1
        · by_cases h5 : p.f0 > x.f0
          · obtain ⟨m1, m2, h, e, a, b⟩ := go (.inr ⟨h4.symm, h5⟩)
            refine ⟨m1, m2, ev_up ?_, e, a, b⟩
            simp only [spec_l15Insert.l0, hlen, if_pos (show (q.length : Int) + 1 > 0 by omega), hw, if_pos (Int.natCast_nonneg q.length), hall, if_pos (show (q.length : Int) < (q.length : Int) + l2.length + 2 by omega), hr, if_neg h3, if_pos h4, if_pos h5, if_pos (show 0 ≤ (q.length : Int) + 1 by omega), if_pos (show (q.length : Int) + 1 < (q.length : Int) + l2.length + 2 by omega)]
            rw [show (⟨p.f0, p.f1⟩ : Cl) = p from rfl, show (⟨x.f0, x.f1⟩ : Cl) = x from rfl, hset]
            exact h
          · refine ⟨q ++ [p], l2, ev_up ?_, rfl, h2, stop (by unfold ltC; omega)⟩
            simp only [spec_l15Insert.l0, hlen, if_pos (show (q.length : Int) + 1 > 0 by omega), hw, if_pos (Int.natCast_nonneg q.length), hall, if_pos (show (q.length : Int) < (q.length : Int) + l2.length + 2 by omega), hr, if_neg h3, if_pos h4, if_neg h5]
            exact Ev.now _
        · refine ⟨q ++ [p], l2, ev_up ?_, rfl, h2, stop (by unfold ltC; omega)⟩
          simp only [spec_l15Insert.l0, hlen, if_pos (show (q.length : Int) + 1 > 0 by omega), hw, if_pos (Int.natCast_nonneg q.length), hall, if_pos (show (q.length : Int) < (q.length : Int) + l2.length + 2 by omega), hr, if_neg h3, if_neg h4]
          exact Ev.now _
/-- What insertion gives: the cells with one more, sorted. -/
theorem insert_some {l : List Cl} (hl : l.length ≤ 50) (hp : l.Pairwise ltC) (x : Cl) (hx : ∀ c ∈ l, ¬ (c.f0 = x.f0 ∧ c.f1 = x.f1)) :
    ∃ m, Ev (fun k => spec_l15Insert.f k l x.f0 x.f1) m ∧ m.length = l.length + 1 ∧ m.Pairwise ltC ∧ ∀ y, y ∈ m ↔ y = x ∨ y ∈ l := by
  obtain ⟨m1, m2, h, e, a, b⟩ := insert_l0 x l.length l [] rfl (by simp; omega) (fun c hc => by simp at hc)
  rw [List.append_nil] at e
  have hmem : ∀ y, y ∈ m1 ++ x :: m2 ↔ y = x ∨ y ∈ l := fun y => by
    rw [← e]
    simp only [List.mem_append, List.mem_cons]
    constructor
    · rintro (h | h | h)
      · exact .inr (.inl h)
      · exact .inl h
      · exact .inr (.inr h)
    · rintro (h | h | h)
      · exact .inr (.inl h)
      · exact .inl h
      · exact .inr (.inr h)
  refine ⟨m1 ++ x :: m2, ?_, by rw [← e]; simp; omega, ?_, hmem⟩
  · unfold spec_l15Insert.f
    simp only [Option.bind_some, List.nil_append, List.length_append, List.length_cons, List.length_nil, Nat.zero_add, if_pos (show l.length < 8796093022208 by omega), if_pos (show l.length + 1 < 8796093022208 by omega), show ((l.length + 1 : Nat) : Int) - 1 = (l.length : Int) from by omega, pw_wrap (a := (l.length : Int)) (by omega) (by omega)]
    exact h
  · rw [← e, List.pairwise_append] at hp
    rw [List.pairwise_append]
    have hlast : ∀ c ∈ m1, ltC c x := by
      intro c hc
      rcases nil_or_snoc m1 with h0 | ⟨q, p, h0⟩
      · rw [h0] at hc; simp at hc
      · have hnp := b q p h0
        have hpl : p ∈ l := by rw [← e, h0]; simp
        have hpx := hx p hpl
        have hp1 : ltC p x := by unfold ltC at hnp ⊢; omega
        rw [h0] at hc
        rcases List.mem_append.1 hc with hc | hc
        · have hpp := hp.1
          rw [h0, List.pairwise_append] at hpp
          have := hpp.2.2 c hc p (by simp)
          unfold ltC at this hp1 ⊢
          omega
        · simp at hc
          rw [hc]
          exact hp1
    refine ⟨hp.1, List.pairwise_cons.2 ⟨a, hp.2.1⟩, fun c hc d hd => ?_⟩
    rcases List.mem_cons.1 hd with rfl | hd
    · exact hlast c hc
    · exact hp.2.2 c hc d hd
def adjC (c d : Cl) : Prop := ((d.f0 = c.f0 + 1 ∨ d.f0 = c.f0 + -1) ∧ d.f1 = c.f1) ∨ (d.f0 = c.f0 ∧ (d.f1 = c.f1 + 1 ∨ d.f1 = c.f1 + -1))
/-- The cells hang together. -/
def ConnC (l : List Cl) : Prop := ∀ P : Int → Int → Prop, (∃ c ∈ l, P c.f0 c.f1) → (∀ c ∈ l, ∀ d ∈ l, adjC c d → P c.f0 c.f1 → P d.f0 d.f1) → ∀ c ∈ l, P c.f0 c.f1
theorem conn_ins {l m : List Cl} {x b : Cl} (hm : ∀ y, y ∈ m ↔ y = x ∨ y ∈ l) (h : ConnC l) (hb : b ∈ l) (ha : adjC b x) : ConnC m := by
  intro P hP hcl
  have hbm : b ∈ m := (hm b).2 (.inr hb)
  have hxm : x ∈ m := (hm x).2 (.inl rfl)
  have hax : adjC x b := by unfold adjC at ha ⊢; omega
  have hbase : ∃ c ∈ l, P c.f0 c.f1 := by
    obtain ⟨c, hc, hp⟩ := hP
    rcases (hm c).1 hc with rfl | hc
    · exact ⟨b, hb, hcl c hxm b hbm hax hp⟩
    · exact ⟨c, hc, hp⟩
  have hall := h P hbase (fun c hc d hd => hcl c ((hm c).2 (.inr hc)) d ((hm d).2 (.inr hd)))
  intro c hc
  rcases (hm c).1 hc with rfl | hc
  · exact hcl b hbm c hxm ha (hall b hb)
  · exact hall c hc
theorem at_index {l : List Cl} {c : Cl} (hc : c ∈ l) : ∃ i : Int, 0 ≤ i ∧ i < l.length ∧ rd_T69 l i = c := by
  obtain ⟨j, hj, e⟩ := List.getElem_of_mem hc
  exact ⟨(j : Int), by omega, by omega, by rw [rdT_get l j hj, e]⟩
theorem index_at {l : List Cl} {i : Int} (h0 : 0 ≤ i) (h1 : i < l.length) : rd_T69 l i ∈ l := by
  obtain ⟨n, rfl⟩ := Int.eq_ofNat_of_zero_le h0
  have hn : n < l.length := by omega
  have := rdT_get l n hn
  rw [this]
  exact List.getElem_mem hn
theorem whole_of {l : List Cl} (hn : 1 ≤ l.length) (hv : vGo none l = true) (hc : ConnC l) : whole l (l.length + 1) [0] 0 = true := by
  have hf0 := few_zero (n := l.length) hn
  have hnb : ∀ x : Int, 0 ≤ x → x < (l.length : Int) → ∀ k ∈ nbrs l x, k < (l.length : Int) := fun x _ _ => nbrs_lt l x
  have hfew : Few l.length (bfs (nbrs l) (l.length + 1) [0] 0) := bfs_few (nbrs l) hnb _ _ _ hf0
  have hcl : ∀ x ∈ bfs (nbrs l) (l.length + 1) [0] 0, ∀ k ∈ nbrs l x, 0 ≤ k → k ∈ bfs (nbrs l) (l.length + 1) [0] 0 := bfs_closed (nbrs l) hnb _ _ _ hf0 rfl (fun j hj hji => absurd hji (by omega))
  have h0m : (0 : Int) ∈ bfs (nbrs l) (l.length + 1) [0] 0 := by
    obtain ⟨s, hs⟩ := bfs_pre (nbrs l) (l.length + 1) [0] 0
    rw [hs]
    simp
  generalize hQ : bfs (nbrs l) (l.length + 1) [0] 0 = Q at *
  have hall := hc (fun a b => ∃ q ∈ Q, cx l q = a ∧ cy l q = b) ⟨rd_T69 l 0, index_at (by omega) (by omega), 0, h0m, rfl, rfl⟩ (fun c _ d hd hadj ⟨q, hq, e1, e2⟩ => by
    obtain ⟨j, j0, j1, rfl⟩ := at_index hd
    have hself := cellAt_self hv j0 j1
    refine ⟨j, ?_, rfl, rfl⟩
    refine hcl q hq j ?_ j0
    have e1' : (rd_T69 l q).f0 = c.f0 := e1
    have e2' : (rd_T69 l q).f1 = c.f1 := e2
    simp only [nbrs, List.mem_cons, List.not_mem_nil, or_false]
    rw [e1', e2']
    unfold adjC at hadj
    rcases hadj with ⟨h | h, h2⟩ | ⟨h2, h | h⟩
    · exact .inl (by rw [← h, ← h2]; exact hself.symm)
    · exact .inr (.inl (by rw [← h, ← h2]; exact hself.symm))
    · exact .inr (.inr (.inl (by rw [← h, ← h2]; exact hself.symm)))
    · exact .inr (.inr (.inr (by rw [← h, ← h2]; exact hself.symm))))
  have hin : ∀ i : Int, 0 ≤ i → i < l.length → i ∈ Q := fun i i0 i1 => by
    obtain ⟨q, hq, e1, e2⟩ := hall _ (index_at i0 i1)
    have hb := hfew.2 q hq
    have s1 := cellAt_self hv i0 i1
    have s2 := cellAt_self hv hb.1 hb.2
    have e1' : (rd_T69 l q).f0 = (rd_T69 l i).f0 := e1
    have e2' : (rd_T69 l q).f1 = (rd_T69 l i).f1 := e2
    rw [e1', e2', s1] at s2
    rw [s2]
    exact hq
  have hlen := sub_len (vals (fun x => x) l.length 0) Q (vals_nodup _ _ _ (fun x y _ _ _ _ e => e)) (fun x hx => by
    obtain ⟨y, a, b, e⟩ := (mem_vals _ _ _ _).1 hx
    rw [e]
    exact hin y a (by omega))
  rw [vals_len] at hlen
  have hle := few_len hfew
  unfold whole
  rw [hQ, show Q.length = l.length from by omega]
  simp
theorem cellGo_in (x y : Int) : ∀ (l : List Cl) (s : Int), (∃ c ∈ l, c.f0 = x ∧ c.f1 = y) → s ≤ cellGo x y l s
  | [], s, h => by obtain ⟨c, hc, _⟩ := h; simp at hc
  | c :: cs, s, h => by
    rw [cellGo]
    by_cases hc : c.f0 = x ∧ c.f1 = y
    · rw [if_pos hc]
      exact Int.le_refl _
    · rw [if_neg hc]
      obtain ⟨d, hd, e⟩ := h
      rcases List.mem_cons.1 hd with rfl | hd
      · exact absurd e hc
      · have := cellGo_in x y cs (s + 1) ⟨d, hd, e⟩
        omega
/-- What the draw keeps. -/
structure TabI (l : List Cl) : Prop where
  n1 : 1 ≤ l.length
  pw : l.Pairwise ltC
  cc : ConnC l
  bd : ∀ c ∈ l, 0 ≤ c.f0 ∧ c.f0 ≤ 3 + l.length ∧ 0 ≤ c.f1 ∧ c.f1 ≤ 3 + l.length
theorem TabI.ok {l : List Cl} (h : TabI l) (hl : l.length ≤ 6) : tableB l = true := by
  have hv := vGo_of l none (fun c hc => by have := h.bd c hc; omega) h.pw (fun p e => by cases e)
  unfold tableB
  rw [decide_eq_true ⟨h.n1, hl⟩, hv, whole_of h.n1 hv h.cc]
  rfl
def dirs : List (List Int) := [[1, 0], [-1, 0], [0, 1], [0, -1]]
theorem draw_l0 (l : List Int) (hl : l.length ≤ 4611686018427387904) : ∀ (n : Nat) (out : List Cl) (s1 s2 : Int), TabI out → out.length + n ≤ 4 → 0 ≤ s1 → ∃ m t1 t2, Ev (fun k => spec_l15Draw.l0 k out (n : Int) l s1 s2) (m, t1, t2) ∧ TabI m ∧ m.length ≤ 4
  | 0, out, s1, s2, h, hn, hs => by
    refine ⟨out, s1, s2, ev_up ?_, h, by omega⟩
    simp only [spec_l15Draw.l0, if_neg (show ¬ ((0 : Nat) : Int) > 0 by omega)]
    exact Ev.now _
  | n + 1, out, s1, s2, h, hn, hs => by
    have h1 := h.n1
    obtain ⟨v, t1, t2, e1, v0, v1, ht⟩ := below_some l hl s1 s2 hs (out.length : Int) (by omega) (by omega)
    obtain ⟨u, w1, w2, e2, u0, u1, hw⟩ := below_some l hl t1 t2 ht 4 (by omega) (by omega)
    have hb := index_at (l := out) v0 v1
    have hbd := h.bd _ hb
    have ew : wrap64 (((n + 1 : Nat) : Int) - 1) = (n : Int) := by rw [pw_wrap (by omega) (by omega)]; omega
    obtain ⟨dx, dy, ed, hd⟩ : ∃ dx dy : Int, rd_L4 dirs u = [dx, dy] ∧ ((dx = 1 ∨ dx = -1) ∧ dy = 0 ∨ dx = 0 ∧ (dy = 1 ∨ dy = -1)) := by
      have hu : u = 0 ∨ u = 1 ∨ u = 2 ∨ u = 3 := by omega
      rcases hu with rfl | rfl | rfl | rfl
      · exact ⟨1, 0, rfl, by omega⟩
      · exact ⟨-1, 0, rfl, by omega⟩
      · exact ⟨0, 1, rfl, by omega⟩
      · exact ⟨0, -1, rfl, by omega⟩
    have skip : ∃ m t1 t2, Ev (fun k => spec_l15Draw.l0 k out (n : Int) l w1 w2) (m, t1, t2) ∧ TabI m ∧ m.length ≤ 4 := draw_l0 l hl n out w1 w2 h (by omega) hw
    have r0 : rd ([dx, dy] : List Int) 0 = dx := rfl
    have r1 : rd ([dx, dy] : List Int) 1 = dy := rfl
    have edir : ([[1, 0], [(-1), 0], [0, 1], [0, (-1)]] : List (List Int)) = dirs := rfl
    have el : ((dirs.length : Nat) : Int) = 4 := rfl
    generalize hB : rd_T69 out v = b at *
    have wx : wrap64 (b.f0 + dx) = b.f0 + dx := pw_wrap (by omega) (by omega)
    have wy : wrap64 (b.f1 + dy) = b.f1 + dy := pw_wrap (by omega) (by omega)
    have hhead : ∀ {r : (List Cl) × Int × Int}, Ev (fun k => (if b.f0 + dx ≥ 0 then (if b.f1 + dy ≥ 0 then ((spec_CellAt.f k out (b.f0 + dx) (b.f1 + dy)).bind fun t => (if t < 0 then ((spec_l15Insert.f k out (b.f0 + dx) (b.f1 + dy)).bind fun t285 => (spec_l15Draw.l0 k t285 (n : Int) l w1 w2)) else (spec_l15Draw.l0 k out (n : Int) l w1 w2))) else (spec_l15Draw.l0 k out (n : Int) l w1 w2)) else (spec_l15Draw.l0 k out (n : Int) l w1 w2))) r → Ev (fun k => spec_l15Draw.l0 k out ((n + 1 : Nat) : Int) l s1 s2) r := fun hr => by
      refine ev_up ?_
      simp only [spec_l15Draw.l0, if_pos (show ((n + 1 : Nat) : Int) > 0 by omega), e1, Option.bind_some, if_pos v0, if_pos v1, e2, if_pos u0, edir, el, if_pos u1, ed, List.length_cons, List.length_nil, if_pos (show (0 : Int) < ((0 + 1 + 1 : Nat) : Int) by omega), if_pos (show (1 : Int) < ((0 + 1 + 1 : Nat) : Int) by omega), hB, r0, r1, wx, wy, ew]
      exact hr
    by_cases hx : b.f0 + dx ≥ 0
    · by_cases hy : b.f1 + dy ≥ 0
      · by_cases hc : cellAt out (b.f0 + dx) (b.f1 + dy) < 0
        · obtain ⟨m, hm, hml, hmp, hmm⟩ := insert_some (by omega) h.pw (⟨b.f0 + dx, b.f1 + dy⟩ : Cl) (fun c hc2 e => by
            have := cellGo_in (b.f0 + dx) (b.f1 + dy) out 0 ⟨c, hc2, e⟩
            unfold cellAt at hc
            omega)
          have hT : TabI m := by
            refine ⟨by omega, hmp, conn_ins hmm h.cc hb (by unfold adjC; simp only; omega), fun c hc2 => ?_⟩
            rcases (hmm c).1 hc2 with rfl | hc2
            · simp only
              omega
            · have := h.bd c hc2
              omega
          obtain ⟨q, z1, z2, hr, hq, hql⟩ := draw_l0 l hl n m w1 w2 hT (by omega) hw
          refine ⟨q, z1, z2, hhead ?_, hq, hql⟩
          simp only [if_pos hx, if_pos hy]
          refine Ev.bind (spec_CellAt_ev out (by omega) _ _) ?_
          simp only [if_pos hc]
          exact Ev.bind hm hr
        · obtain ⟨q, z1, z2, hr, hq, hql⟩ := skip
          refine ⟨q, z1, z2, hhead ?_, hq, hql⟩
          simp only [if_pos hx, if_pos hy]
          refine Ev.bind (spec_CellAt_ev out (by omega) _ _) ?_
          simp only [if_neg hc]
          exact hr
      · obtain ⟨q, z1, z2, hr, hq, hql⟩ := skip
        refine ⟨q, z1, z2, hhead ?_, hq, hql⟩
        simp only [if_pos hx, if_neg hy]
        exact hr
    · obtain ⟨q, z1, z2, hr, hq, hql⟩ := skip
      refine ⟨q, z1, z2, hhead ?_, hq, hql⟩
      simp only [if_neg hx]
      exact hr
theorem table_some (l : List Int) (hl : l.length ≤ 4611686018427387904) : ∃ m, Ev (fun k => spec_MakeTable.f k l) m ∧ tableB m = true ∧ m.length ≤ 4 := by
  obtain ⟨h, e⟩ := new_some l hl
  obtain ⟨x, t1, t2, e1, x0, x1, ht⟩ := below_some l hl 0 h (by omega) 3 (by omega) (by omega)
  obtain ⟨y, u1, u2, e2, y0, y1, hu⟩ := below_some l hl t1 t2 ht 3 (by omega) (by omega)
  obtain ⟨v, w1, w2, e3, v0, v1, hw⟩ := below_some l hl u1 u2 hu 4 (by omega) (by omega)
  have hT : TabI [(⟨2 + x, 2 + y⟩ : Cl)] := by
    refine ⟨by simp, List.pairwise_singleton _ _, fun P hP _ c hc => ?_, fun c hc => ?_⟩
    · obtain ⟨d, hd, hp⟩ := hP
      simp only [List.mem_singleton] at hc hd
      rw [hc]
      rw [hd] at hp
      exact hp
    · simp only [List.mem_singleton] at hc
      subst hc
      simp only [List.length_singleton]
      omega
  obtain ⟨n, rfl⟩ := Int.eq_ofNat_of_zero_le v0
  obtain ⟨m, z1, z2, hr, hm, hml⟩ := draw_l0 l hl n [(⟨2 + x, 2 + y⟩ : Cl)] w1 w2 hT (by simp; omega) hw
  refine ⟨m, ?_, hm.ok (by omega), hml⟩
  unfold spec_MakeTable.f
  refine Ev.bind e ?_
  refine Ev.bind (a := (m, z1, z2)) ?_ (Ev.now _)
  unfold spec_l15Draw.f
  simp only [e1, e2, e3, Option.bind_some, pw_wrap (a := 2 + x) (by omega) (by omega), pw_wrap (a := 2 + y) (by omega) (by omega)]
  exact hr

/-- Both programs' loops of the common divisor come to Nat's gcd. -/
theorem gcd_step {a b : Int} (hb : 0 < b) (ha : 0 ≤ a) : (Int.gcd b (Int.tmod a b) : Int) = Int.gcd a b := by
  obtain ⟨n, rfl⟩ := Int.eq_ofNat_of_zero_le ha
  obtain ⟨m, rfl⟩ := Int.eq_ofNat_of_zero_le (Int.le_of_lt hb)
  rw [Int.tmod_eq_emod_of_nonneg ha]
  rw [show ((n : Int) % (m : Int)) = ((n % m : Nat) : Int) from by simp]
  simp only [Int.gcd, Int.natAbs_natCast]
  rw [Nat.gcd_comm n m, Nat.gcd_rec m n, Nat.gcd_comm]
theorem spec_gcd_l0 (k : Nat) : ∀ a b : Int, 0 ≤ a → 0 ≤ b → b < k → spec_l08Gcd.l0 k a b = some (Int.gcd a b : Int) := by
  induction k with
  | zero => intro a b _ h0 h1; omega
  | succ k ih =>
    intro a b ha hb hk
    simp only [spec_l08Gcd.l0]
    by_cases h : b = 0
    · subst h
      rw [if_pos rfl]
      simp
      omega
    · rw [if_neg h, ih b _ hb (by rw [Int.tmod_eq_emod_of_nonneg ha]; exact Int.emod_nonneg _ h) (by rw [Int.tmod_eq_emod_of_nonneg ha]; have := Int.emod_lt_of_pos a (show 0 < b by omega); omega)]
      rw [gcd_step (by omega) ha]
theorem impl_gcd_l0 (k : Nat) : ∀ a b : Int, 0 ≤ a → 0 ≤ b → b < k → impl_gcd.l0 k a b = some (Int.gcd a b : Int) := by
  induction k with
  | zero => intro a b _ h0 h1; omega
  | succ k ih =>
    intro a b ha hb hk
    simp only [impl_gcd.l0]
    by_cases h : b = 0
    · subst h
      rw [if_pos rfl]
      simp
      omega
    · rw [if_neg h, ih b _ hb (by rw [Int.tmod_eq_emod_of_nonneg ha]; exact Int.emod_nonneg _ h) (by rw [Int.tmod_eq_emod_of_nonneg ha]; have := Int.emod_lt_of_pos a (show 0 < b by omega); omega)]
      rw [gcd_step (by omega) ha]

/-- A step again and again. -/
def iter (f : Int → Int) : Nat → Int → Int
  | 0, x => x
  | m + 1, x => iter f m (f x)
theorem iter_succ (f : Int → Int) : ∀ (m : Nat) (x : Int), iter f (m + 1) x = f (iter f m x)
  | 0, _ => rfl
  | m + 1, x => by rw [iter, iter_succ f m (f x), ← iter]
theorem iter_bd {n : Nat} {f : Int → Int} (hb : ∀ x : Int, 0 ≤ x → x < n → 0 ≤ f x ∧ f x < n) : ∀ (m : Nat) {x : Int}, 0 ≤ x → x < n → 0 ≤ iter f m x ∧ iter f m x < n
  | 0, _, h0, h1 => ⟨h0, h1⟩
  | m + 1, x, h0, h1 => iter_bd hb m (hb x h0 h1).1 (hb x h0 h1).2
def orb (f : Int → Int) : Nat → Int → List Int
  | 0, x => [x]
  | k + 1, x => x :: (orb f k x).map f
theorem orb_len (f : Int → Int) : ∀ (k : Nat) (x : Int), (orb f k x).length = k + 1
  | 0, _ => rfl
  | k + 1, x => by simp [orb, orb_len f k x]
theorem orb_mem (f : Int → Int) : ∀ (k : Nat) (x y : Int), y ∈ orb f k x → ∃ m, m ≤ k ∧ y = iter f m x
  | 0, x, y, h => by
    simp only [orb, List.mem_singleton] at h
    exact ⟨0, Nat.le_refl _, h⟩
  | k + 1, x, y, h => by
    simp only [orb, List.mem_cons, List.mem_map] at h
    rcases h with rfl | ⟨z, hz, rfl⟩
    · exact ⟨0, by omega, rfl⟩
    · obtain ⟨m, hm, rfl⟩ := orb_mem f k x z hz
      exact ⟨m + 1, by omega, (iter_succ f m x).symm⟩
theorem map_nodup {n : Nat} {g : Int → Int} (hg : ∀ x y : Int, 0 ≤ x → x < n → 0 ≤ y → y < n → g x = g y → x = y) : ∀ q : List Int, (∀ x ∈ q, 0 ≤ x ∧ x < (n : Int)) → q.Nodup → (q.map g).Nodup
  | [], _, _ => List.nodup_nil
  | y :: q, hb, hn => by
    have hn2 := List.nodup_cons.1 hn
    rw [List.map_cons, List.nodup_cons]
    refine ⟨fun hm => ?_, map_nodup hg q (fun z hz => hb z (List.mem_cons_of_mem _ hz)) hn2.2⟩
    obtain ⟨z, hz, e⟩ := List.mem_map.1 hm
    have b1 := hb z (List.mem_cons_of_mem _ hz)
    have b2 := hb y List.mem_cons_self
    have := hg z y b1.1 b1.2 b2.1 b2.2 e
    subst this
    exact hn2.1 hz
theorem orb_few {n : Nat} {f : Int → Int} (hb : ∀ x : Int, 0 ≤ x → x < n → 0 ≤ f x ∧ f x < n) (hg : ∀ x y : Int, 0 ≤ x → x < n → 0 ≤ y → y < n → f x = f y → x = y) {x : Int} (h0 : 0 ≤ x) (h1 : x < n) : ∀ k : Nat, (∀ m, 1 ≤ m → m ≤ k → iter f m x ≠ x) → Few n (orb f k x)
  | 0, _ => ⟨by simp [orb], fun y hy => by simp only [orb, List.mem_singleton] at hy; subst hy; exact ⟨h0, h1⟩⟩
  | k + 1, h => by
    have ih := orb_few hb hg h0 h1 k (fun m a b => h m a (by omega))
    refine ⟨?_, fun y hy => ?_⟩
    · rw [orb, List.nodup_cons]
      refine ⟨fun hm => ?_, map_nodup hg _ ih.2 ih.1⟩
      obtain ⟨z, hz, e⟩ := List.mem_map.1 hm
      obtain ⟨m, hm2, rfl⟩ := orb_mem f k x z hz
      have e : f (iter f m x) = x := e
      rw [← iter_succ f m x] at e
      exact h (m + 1) (by omega) (by omega) e
    · obtain ⟨m, _, rfl⟩ := orb_mem f (k + 1) x y hy
      exact iter_bd hb m h0 h1
/-- A one-to-one step on n places comes back within n steps. -/
theorem iter_ret {n : Nat} {f : Int → Int} (hb : ∀ x : Int, 0 ≤ x → x < n → 0 ≤ f x ∧ f x < n) (hg : ∀ x y : Int, 0 ≤ x → x < n → 0 ≤ y → y < n → f x = f y → x = y) {x : Int} (h0 : 0 ≤ x) (h1 : x < n) : ∃ m, 1 ≤ m ∧ m ≤ n ∧ iter f m x = x := by
  refine Classical.byContradiction fun hc => ?_
  have := few_len (orb_few hb hg h0 h1 n (fun m a b e => hc ⟨m, a, b, e⟩))
  rw [orb_len] at this
  omega
/-- How many steps from y until x is met. -/
def retN (f : Int → Int) (x : Int) : Nat → Int → Nat
  | 0, _ => 0
  | k + 1, y => if y = x then 0 else 1 + retN f x k (f y)
theorem retN_meets (f : Int → Int) (x : Int) : ∀ (k : Nat) (y : Int) (m : Nat), m ≤ k → iter f m y = x → iter f (retN f x k y) y = x ∧ retN f x k y ≤ k
  | 0, y, m, h, e => by
    have : m = 0 := by omega
    subst this
    exact ⟨e, Nat.le_refl _⟩
  | k + 1, y, m, h, e => by
    rw [retN]
    by_cases hy : y = x
    · rw [if_pos hy]
      exact ⟨hy, by omega⟩
    · rw [if_neg hy]
      cases m with
      | zero => exact absurd e hy
      | succ m =>
        have := retN_meets f x k (f y) m (by omega) e
        refine ⟨?_, by omega⟩
        rw [Nat.add_comm, iter]
        exact this.1

theorem rd_inj {p : List Int} (hp : isPerm p) {x y : Int} (x0 : 0 ≤ x) (x1 : x < p.length) (y0 : 0 ≤ y) (y1 : y < p.length) (h : rd p x = rd p y) : x = y := by
  obtain ⟨i, rfl⟩ := Int.eq_ofNat_of_zero_le x0
  obtain ⟨j, rfl⟩ := Int.eq_ofNat_of_zero_le y0
  have hi : i < p.length := by omega
  have hj : j < p.length := by omega
  have e1 : rd p (i : Int) = p[i] := by simp [rd, List.getD, hi]
  have e2 : rd p (j : Int) = p[j] := by simp [rd, List.getD, hj]
  have h2 : p[i] = p[j] := by rw [← e1, ← e2]; exact h
  have hn := List.pairwise_iff_getElem.1 hp.2.2
  rcases Nat.lt_trichotomy i j with hij | hij | hij
  · exact absurd h2 (hn i j hi hj hij)
  · rw [hij]
  · exact absurd h2.symm (hn j i hj hi hij)
theorem rd_perm {p : List Int} (hp : isPerm p) {x : Int} (x0 : 0 ≤ x) (x1 : x < p.length) : 0 ≤ rd p x ∧ rd p x < p.length := by
  obtain ⟨i, rfl⟩ := Int.eq_ofNat_of_zero_le x0
  have hi : i < p.length := by omega
  have e1 : rd p (i : Int) = p[i] := by simp [rd, List.getD, hi]
  have := hp.2.1 _ (List.getElem_mem hi)
  rw [e1]
  exact this
/-- A step by a letter: to the right at 'r', up else; a walk; the squares that it leaves. -/
def stepT (r u : List Int) (x : Int) (c : UInt8) : Int := if c = 114 then rd r x else rd u x
def walkT (r u : List Int) (x : Int) (ws : List UInt8) : Int := ws.foldl (stepT r u) x
theorem walkT_app (r u : List Int) (x : Int) (a b : List UInt8) : walkT r u x (a ++ b) = walkT r u (walkT r u x a) b := by simp [walkT]
structure Two (r u : List Int) (n : Nat) : Prop where
  pr : isPerm r
  pu : isPerm u
  lr : r.length = n
  lu : u.length = n
theorem Two.step {r u : List Int} {n : Nat} (h : Two r u n) (c : UInt8) {x : Int} (h0 : 0 ≤ x) (h1 : x < n) : 0 ≤ stepT r u x c ∧ stepT r u x c < n := by
  have a := rd_perm h.pr h0 (by have := h.lr; omega)
  have b := rd_perm h.pu h0 (by have := h.lu; omega)
  have := h.lr
  have := h.lu
  unfold stepT
  split <;> omega
theorem Two.walk {r u : List Int} {n : Nat} (h : Two r u n) : ∀ (ws : List UInt8) {x : Int}, 0 ≤ x → x < n → 0 ≤ walkT r u x ws ∧ walkT r u x ws < n
  | [], _, h0, h1 => ⟨h0, h1⟩
  | c :: ws, _, h0, h1 => h.walk ws (h.step c h0 h1).1 (h.step c h0 h1).2
theorem Two.step_inj {r u : List Int} {n : Nat} (h : Two r u n) (c : UInt8) {x y : Int} (x0 : 0 ≤ x) (x1 : x < n) (y0 : 0 ≤ y) (y1 : y < n) (e : stepT r u x c = stepT r u y c) : x = y := by
  have := h.lr
  have := h.lu
  unfold stepT at e
  split at e
  · exact rd_inj h.pr x0 (by omega) y0 (by omega) e
  · exact rd_inj h.pu x0 (by omega) y0 (by omega) e
theorem Two.walk_inj {r u : List Int} {n : Nat} (h : Two r u n) : ∀ (ws : List UInt8) {x y : Int}, 0 ≤ x → x < n → 0 ≤ y → y < n → walkT r u x ws = walkT r u y ws → x = y
  | [], _, _, _, _, _, _, e => e
  | c :: ws, _, _, x0, x1, y0, y1, e => h.step_inj c x0 x1 y0 y1 (h.walk_inj ws (h.step c x0 x1).1 (h.step c x0 x1).2 (h.step c y0 y1).1 (h.step c y0 y1).2 e)
/-- The word so often. -/
def reps (ws : List UInt8) : Nat → List UInt8
  | 0 => []
  | n + 1 => ws ++ reps ws n
theorem reps_len (ws : List UInt8) : ∀ n, (reps ws n).length = n * ws.length
  | 0 => by simp [reps]
  | n + 1 => by simp [reps, reps_len ws n, Nat.succ_mul]; omega
theorem reps_walk (r u : List Int) (ws : List UInt8) : ∀ (n : Nat) (x : Int), walkT r u x (reps ws n) = iter (fun x => walkT r u x ws) n x
  | 0, _ => rfl
  | n + 1, x => by rw [reps, walkT_app, iter, reps_walk r u ws n]
/-- The rounds until the path is back. -/
def roundsOf (r u : List Int) (ws : List UInt8) (x : Int) : Nat := 1 + retN (fun x => walkT r u x ws) x r.length (walkT r u x ws)
theorem roundsOf_back {r u : List Int} {n : Nat} (h : Two r u n) (ws : List UInt8) {x : Int} (h0 : 0 ≤ x) (h1 : x < n) : walkT r u x (reps ws (roundsOf r u ws x)) = x ∧ roundsOf r u ws x ≤ n + 1 := by
  obtain ⟨m, m1, m2, e⟩ := iter_ret (n := n) (f := fun x => walkT r u x ws) (fun x a b => h.walk ws a b) (fun x y a b c d e => h.walk_inj ws a b c d e) h0 h1
  obtain ⟨m, rfl⟩ : ∃ q, m = q + 1 := ⟨m - 1, by omega⟩
  have := h.lr
  have hm := retN_meets (fun x => walkT r u x ws) x r.length (walkT r u x ws) m (by omega) e
  unfold roundsOf
  refine ⟨?_, by omega⟩
  rw [reps_walk, Nat.add_comm, iter]
  exact hm.1
/-- The letter of a step, and the letters of a path. -/
def bLet (x y : Int) (c : UInt8) : UInt8 := if y / 4 = x / 4 then (if c = 114 then 72 else 86) else 46
def bText (r u : List Int) : Int → List UInt8 → List UInt8
  | _, [] => []
  | x, c :: cs => bLet x (stepT r u x c) c :: bText r u (stepT r u x c) cs
theorem bText_len (r u : List Int) : ∀ (x : Int) (ws : List UInt8), (bText r u x ws).length = ws.length
  | _, [] => rfl
  | x, c :: cs => by simp [bText, bText_len r u _ cs]
theorem bText_mem (r u : List Int) : ∀ (x : Int) (ws : List UInt8), ∀ c ∈ bText r u x ws, c = 46 ∨ c = 72 ∨ c = 86
  | _, [], c, h => by simp [bText] at h
  | x, d :: cs, c, h => by
    simp only [bText, List.mem_cons] at h
    rcases h with rfl | h
    · unfold bLet
      split
      · split <;> simp
      · simp
    · exact bText_mem r u _ cs c h
/-- The letter number i of the word of a slope. -/
def sLet (q n i : Int) : UInt8 := if q = 0 ∨ i * q % n < (i + 1) * q % n then 114 else 117
def sGo (q n : Int) : Nat → Int → List UInt8
  | 0, _ => []
  | d + 1, i => sLet q n i :: sGo q n d (i + 1)
theorem sGo_len (q n : Int) : ∀ (d : Nat) (i : Int), (sGo q n d i).length = d
  | 0, _ => rfl
  | d + 1, i => by simp [sGo, sGo_len q n d]
def slopeB (p q : Int) : Bool := decide (0 ≤ p ∧ p ≤ 12 ∧ 0 ≤ q ∧ q ≤ 12 ∧ p + q ≤ 12) && decide (Int.gcd p q = 1)
def swOf (p q : Int) : List UInt8 := if slopeB p q = true then sGo q (p + q) (p + q).toNat 0 else []

/-- A list of bytes as a text. -/
def wB (ws : List UInt8) : ByteArray := ⟨ws.toArray⟩
theorem wB_size (ws : List UInt8) : (wB ws).size = ws.length := by
  have h : (wB ws).size = ws.toArray.size := rfl
  rw [h, List.size_toArray]
theorem wB_mid (p s : List UInt8) (c : UInt8) : bt (wB (p ++ c :: s)) (p.length : Int) = (c.toNat : Int) := by
  have h : ((p.length : Nat) : Int).toNat < (wB (p ++ c :: s)).size := by rw [wB_size]; simp
  unfold bt
  rw [dif_pos h]
  have e : (wB (p ++ c :: s))[((p.length : Nat) : Int).toNat]'h = c := by
    show (p ++ c :: s).toArray[((p.length : Nat) : Int).toNat]'_ = c
    simp
  rw [e]
def nB (ws : List UInt8) : List Int := ws.map fun c => (c.toNat : Int)
theorem nB_str (ws : List UInt8) : strOfNums (nB ws) = wB ws := by
  unfold strOfNums wB nB
  congr 1
  simp [Function.comp_def]
theorem nB_snoc (ws : List UInt8) (c : UInt8) : nB ws ++ [(c.toNat : Int)] = nB (ws ++ [c]) := by simp [nB]
theorem nB_len (ws : List UInt8) : (nB ws).length = ws.length := by simp [nB]
theorem u8_is (c : UInt8) (n : Nat) (h : n < 256) : ((c.toNat : Int) = (n : Int)) ↔ c = UInt8.ofNat n := by
  constructor
  · intro e
    have : c.toNat = n := by omega
    apply UInt8.toNat_inj.1
    rw [this, UInt8.toNat_ofNat']
    omega
  · rintro rfl
    rw [UInt8.toNat_ofNat']
    omega
theorem u8_114 (c : UInt8) : ((c.toNat : Int) = 114) ↔ c = 114 := u8_is c 114 (by omega)

theorem slopeB_side {p q : Int} (h : slopeB p q = true) : (0 ≤ p ∧ p ≤ 12 ∧ 0 ≤ q ∧ q ≤ 12 ∧ p + q ≤ 12) ∧ Int.gcd p q = 1 ∧ 1 ≤ p + q := by
  simp only [slopeB, Bool.and_eq_true, decide_eq_true_eq] at h
  refine ⟨h.1, h.2, ?_⟩
  refine Classical.byContradiction fun hc => ?_
  have hp : p = 0 := by omega
  have hq : q = 0 := by omega
  have := h.2
  rw [hp, hq] at this
  exact absurd this (by decide)
theorem gcd_one (p q : Int) : (((Int.gcd p q : Nat) : Int) == 1) = decide (Int.gcd p q = 1) := by
  rw [Bool.eq_iff_iff]
  simp only [beq_iff_eq, decide_eq_true_eq]
  omega
theorem impl_slopeOk (p q : Int) : Ev (fun k => impl_SlopeOk.f k p q) (slopeB p q) := by
  unfold impl_SlopeOk.f slopeB
  have bad : ∀ h : ¬ (0 ≤ p ∧ p ≤ 12 ∧ 0 ≤ q ∧ q ≤ 12 ∧ p + q ≤ 12), Ev (fun _ : Nat => (some false : Option Bool)) (decide (0 ≤ p ∧ p ≤ 12 ∧ 0 ≤ q ∧ q ≤ 12 ∧ p + q ≤ 12) && decide (Int.gcd p q = 1)) := fun h => by
    rw [decide_eq_false h, Bool.false_and]
    exact Ev.now _
  by_cases h1 : p ≥ 0
  · simp only [if_pos h1]
    by_cases h2 : q ≥ 0
    · simp only [if_pos h2]
      by_cases h3 : p ≤ 12
      · simp only [if_pos h3]
        by_cases h4 : q ≤ 12
        · simp only [if_pos h4, pw_wrap (a := p + q) (by omega) (by omega)]
          by_cases h5 : p + q ≤ 12
          · simp only [if_pos h5]
            have e : decide (0 ≤ p ∧ p ≤ 12 ∧ 0 ≤ q ∧ q ≤ 12 ∧ p + q ≤ 12) = true := decide_eq_true (by omega)
            rw [e, Bool.true_and]
            refine Ev.bind (a := ((Int.gcd p q : Nat) : Int)) ?_ ?_
            · exact ev_k (n := 13) (fun k hk => impl_gcd_l0 k p q (by omega) (by omega) (by omega))
            · rw [gcd_one]
              exact Ev.now _
          · simp only [if_neg h5]; exact bad (by omega)
        · simp only [if_neg h4]; exact bad (by omega)
      · simp only [if_neg h3]; exact bad (by omega)
    · simp only [if_neg h2]; exact bad (by omega)
  · simp only [if_neg h1]; exact bad (by omega)
theorem slope_mul {q : Int} (hq : 0 ≤ q ∧ q ≤ 12) (j : Int) (a : 0 ≤ j) (b : j ≤ 12) : 0 ≤ j * q ∧ j * q ≤ 144 :=
  ⟨Int.mul_nonneg a hq.1, by have := Int.mul_le_mul b hq.2 hq.1 (by omega : (0 : Int) ≤ 12); omega⟩
theorem impl_sw_l0 {q n : Int} (hq : 0 ≤ q ∧ q ≤ 12) (hn : 1 ≤ n ∧ n ≤ 12) : ∀ (d : Nat) (i : Int) (pre : List UInt8), 0 ≤ i → i + d = n → pre.length + d ≤ 100 → Ev (fun k => impl_SlopeWord.l0 k q n (nB pre) i) (wB (pre ++ sGo q n d i))
  | 0, i, pre, h0, h1, h2 => by
    refine ev_up ?_
    simp only [impl_SlopeWord.l0, if_neg (show ¬ i < n by omega), sGo, List.append_nil, nB_str]
    exact Ev.now _
  | d + 1, i, pre, h0, h1, h2 => by
    have hi := impl_sw_l0 hq hn d (i + 1) (pre ++ [sLet q n i]) (by omega) (by omega) (by simp; omega)
    rw [List.append_assoc] at hi
    have m1 := slope_mul hq i h0 (by omega)
    have m2 := slope_mul hq (i + 1) (by omega) (by omega)
    have s1 : nB pre ++ [114] = nB (pre ++ [114]) := nB_snoc pre 114
    have s2 : nB pre ++ [117] = nB (pre ++ [117]) := nB_snoc pre 117
    refine ev_up ?_
    simp only [impl_SlopeWord.l0, if_pos (show i < n by omega), nB_len, if_pos (show pre.length < 140737488355328 by omega), s1, s2, pw_wrap (a := i + 1) (by omega) (by omega), pw_wrap (a := i * q) (by omega) (by omega), pw_wrap (a := (i + 1) * q) (by omega) (by omega), Int.tmod_eq_emod_of_nonneg m1.1, Int.tmod_eq_emod_of_nonneg m2.1, if_neg (show ¬ n = 0 by omega)]
    by_cases h3 : q = 0
    · simp only [if_pos h3]
      rw [show sLet q n i = 114 from if_pos (.inl h3)] at hi
      rw [sGo, show sLet q n i = 114 from if_pos (.inl h3)]
      exact hi
    · simp only [if_neg h3]
      by_cases h4 : i * q % n < (i + 1) * q % n
      · simp only [if_pos h4]
        rw [show sLet q n i = 114 from if_pos (.inr h4)] at hi
        rw [sGo, show sLet q n i = 114 from if_pos (.inr h4)]
        exact hi
      · simp only [if_neg h4]
        have e : sLet q n i = 117 := if_neg (fun h => h.elim h3 h4)
        rw [e] at hi
        rw [sGo, e]
        exact hi
theorem impl_slopeWord (p q : Int) : Ev (fun k => impl_SlopeWord.f k p q) (wB (swOf p q)) := by
  unfold impl_SlopeWord.f swOf
  refine Ev.bind (impl_slopeOk p q) ?_
  by_cases h : slopeB p q = true
  · obtain ⟨h1, h2, h3⟩ := slopeB_side h
    simp only [if_pos h, pw_wrap (a := p + q) (by omega) (by omega)]
    exact impl_sw_l0 ⟨h1.2.2.1, h1.2.2.2.1⟩ ⟨h3, h1.2.2.2.2⟩ (p + q).toNat 0 [] (by omega) (by omega) (by simp; omega)
  · simp only [if_neg h]
    exact Ev.now _
theorem swOf_len (p q : Int) : (swOf p q).length ≤ 12 := by
  unfold swOf
  by_cases h : slopeB p q = true
  · rw [if_pos h, sGo_len]
    have := slopeB_side h
    omega
  · rw [if_neg h]
    simp

theorem two_of {r u : List Int} (h : transB r u = true) : Two r u r.length := by
  obtain ⟨h1, h2, h3, _, _⟩ := transB_side h
  exact ⟨h1, h2, rfl, h3.symm⟩
theorem vals_rd (g : Int → Int) (d : Nat) {x : Int} (h0 : 0 ≤ x) (h1 : x < d) : rd (vals g d 0) x = g x := by
  obtain ⟨i, rfl⟩ := Int.eq_ofNat_of_zero_le h0
  have aux : ∀ (d : Nat) (s : Int) (i : Nat), i < d → rd (vals g d s) (i : Int) = g (s + i) := by
    intro d
    induction d with
    | zero => intro s i h; omega
    | succ d ih =>
      intro s i h
      cases i with
      | zero => simp [vals, rd, List.getD]
      | succ i =>
        have e : rd (vals g (d + 1) s) ((i + 1 : Nat) : Int) = rd (vals g d (s + 1)) (i : Int) := by
          simp only [rd, vals]
          rw [show (((i + 1 : Nat) : Int)).toNat = i + 1 from by omega, show ((i : Int)).toNat = i from by omega]
          rfl
        rw [e, ih (s + 1) i (by omega)]
        congr 1
        omega
  have := aux d 0 i (by omega)
  rw [Int.zero_add] at this
  exact this
theorem step_eq {r u : List Int} {n : Nat} (h : Two r u n) (c : UInt8) {x : Int} (h0 : 0 ≤ x) (h1 : x < n) : impl_stepSquare.f r u x (c.toNat : Int) = some (stepT r u x c) := by
  have := h.lr
  have := h.lu
  unfold impl_stepSquare.f stepT
  by_cases hc : c = 114
  · rw [if_pos ((u8_114 c).2 hc), if_pos hc, if_pos h0, if_pos (by omega)]
  · rw [if_neg (fun e => hc ((u8_114 c).1 e)), if_neg hc, if_pos h0, if_pos (by omega)]
/-! The permutation of a slope, in both programs. -/
theorem impl_pp_l1 {r u : List Int} {n : Nat} (h : Two r u n) (ws : List UInt8) (hw : ws.length ≤ 1000) (out : List Int) (ho : out.length ≤ 1000) (N j : Int) (hj : 0 ≤ j ∧ j ≤ 1000) (res : List Int × Bool) : ∀ (suf pre : List UInt8) (x : Int), ws = pre ++ suf → 0 ≤ x → x < n →
    Ev (fun k => impl_PathPerm.l0 k (wB ws) (out ++ [walkT r u x suf]) N (j + 1) r u) res → Ev (fun k => impl_PathPerm.l1 k (wB ws) out x (pre.length : Int) N j r u) res
  | [], pre, x, e, h0, h1, hr => by
    have e2 : ws = pre := by simpa using e
    refine ev_up ?_
    simp only [impl_PathPerm.l1, wB_size, e2, if_neg (show ¬ (pre.length : Int) < pre.length by omega), if_pos (show out.length < 17592186044416 by omega), pw_wrap (a := j + 1) (by omega) (by omega)]
    rw [e2] at hr
    exact hr
  | c :: suf, pre, x, e, h0, h1, hr => by
    have hs := h.step c h0 h1
    have hi := impl_pp_l1 h ws hw out ho N j hj res suf (pre ++ [c]) (stepT r u x c) (by simp [e]) hs.1 hs.2 hr
    have hl : pre.length < ws.length := by rw [e]; simp
    have hb : bt (wB ws) (pre.length : Int) = (c.toNat : Int) := by rw [e]; exact wB_mid _ _ _
    have hwr : wrap64 ((pre.length : Int) + 1) = ((pre ++ [c]).length : Int) := by rw [pw_wrap (by omega) (by omega)]; simp
    refine ev_up ?_
    simp only [impl_PathPerm.l1, wB_size, if_pos (show (pre.length : Int) < ws.length by omega), if_pos (Int.natCast_nonneg pre.length), hb, step_eq h c h0 h1, Option.bind_some, hwr]
    exact hi
theorem impl_pp_l0 {r u : List Int} {n : Nat} (h : Two r u n) (ws : List UInt8) (hw : ws.length ≤ 1000) : ∀ (d : Nat) (x : Int) (out : List Int), 0 ≤ x → x + d = n → out.length + d ≤ 1000 →
    Ev (fun k => impl_PathPerm.l0 k (wB ws) out (n : Int) x r u) (out ++ vals (fun x => walkT r u x ws) d x, true)
  | 0, x, out, h0, h1, h2 => by
    refine ev_up ?_
    simp only [impl_PathPerm.l0, if_neg (show ¬ x < (n : Int) by omega), vals, List.append_nil]
    exact Ev.now _
  | d + 1, x, out, h0, h1, h2 => by
    have hn := h.pr.1
    have hl := h.lr
    have hi := impl_pp_l0 h ws hw d (x + 1) (out ++ [walkT r u x ws]) (by omega) (by omega) (by simp; omega)
    refine ev_up ?_
    simp only [impl_PathPerm.l0, if_pos (show x < (n : Int) by omega)]
    refine impl_pp_l1 h ws hw out (by omega) _ x (by omega) _ ws [] x rfl h0 (by omega) ?_
    rw [List.append_assoc] at hi
    exact hi
theorem impl_pathPerm {r u : List Int} (h : transB r u = true) {p q : Int} (hs : slopeB p q = true) : Ev (fun k => impl_PathPerm.f k r u p q) (vals (fun x => walkT r u x (swOf p q)) r.length 0, true) := by
  have hn := (two_of h).pr.1
  unfold impl_PathPerm.f
  refine Ev.bind (impl_surfOk r u) ?_
  simp only [h, if_true]
  refine Ev.bind (impl_slopeOk p q) ?_
  refine ev_up ?_
  simp only [hs, Bool.not_true, impl_PathPerm.j0, Bool.false_eq_true, if_false]
  refine Ev.bind (impl_slopeWord p q) ?_
  exact impl_pp_l0 (two_of h) _ (by have := swOf_len p q; omega) r.length 0 [] (by omega) (by omega) (by simp; omega)
theorem impl_rounds_l0 {P : List Int} {n : Nat} (hP : P.length = n) (g : Int → Int) (hg : ∀ y : Int, 0 ≤ y → y < n → rd P y = g y ∧ 0 ≤ g y ∧ g y < n) (x : Int) : ∀ (f m : Nat) (y c : Int), m ≤ f → iter g m y = x → 0 ≤ y → y < n → 0 ≤ c → c + f ≤ 1000 →
    Ev (fun k => impl_PathRounds.l0 k x P c y) (c + retN g x f y)
  | 0, m, y, c, hm, e, h0, h1, c0, c1 => by
    have : m = 0 := by omega
    subst this
    refine ev_up ?_
    simp only [impl_PathRounds.l0, if_pos (show y = x from e), retN, Int.natCast_zero, Int.add_zero]
    exact Ev.now _
  | f + 1, m, y, c, hm, e, h0, h1, c0, c1 => by
    refine ev_up ?_
    rw [retN]
    by_cases hy : y = x
    · simp only [impl_PathRounds.l0, if_pos hy, Int.natCast_zero, Int.add_zero]
      exact Ev.now _
    · cases m with
      | zero => exact absurd e hy
      | succ m =>
        have hb := hg y h0 h1
        have hi := impl_rounds_l0 hP g hg x f m (g y) (c + 1) (by omega) e hb.2.1 hb.2.2 (by omega) (by omega)
        simp only [impl_PathRounds.l0, if_neg hy, if_pos h0, if_pos (show y < (P.length : Int) by omega), hb.1, pw_wrap (a := c + 1) (by omega) (by omega)]
        rw [show c + ((1 + retN g x f (g y) : Nat) : Int) = c + 1 + (retN g x f (g y) : Int) from by omega]
        exact hi
/-- The way back, as the loops ask for it. -/
theorem ret_m {r u : List Int} (h : transB r u = true) (ws : List UInt8) {x : Int} (h0 : 0 ≤ x) (h1 : x < r.length) : ∃ m, m ≤ r.length ∧ iter (fun x => walkT r u x ws) m (walkT r u x ws) = x := by
  have t := two_of h
  obtain ⟨m, m1, m2, e⟩ := iter_ret (n := r.length) (f := fun x => walkT r u x ws) (fun x a b => t.walk ws a b) (fun x y a b c d e => t.walk_inj ws a b c d e) h0 h1
  obtain ⟨m, rfl⟩ : ∃ q, m = q + 1 := ⟨m - 1, by omega⟩
  exact ⟨m, by omega, e⟩
theorem impl_pathRounds {r u : List Int} (h : transB r u = true) {p q : Int} (hs : slopeB p q = true) {x : Int} (h0 : 0 ≤ x) (h1 : x < r.length) : Ev (fun k => impl_PathRounds.f k r u x p q) (roundsOf r u (swOf p q) x : Int) := by
  have t := two_of h
  have hn := t.pr.1
  obtain ⟨m, hm, e⟩ := ret_m h (swOf p q) h0 h1
  have hw := t.walk (swOf p q) h0 h1
  unfold impl_PathRounds.f
  refine Ev.bind (impl_pathPerm h hs) ?_
  simp only [if_true, if_neg (show ¬ x < 0 by omega), vals_len, decide_eq_false (show ¬ x ≥ (r.length : Int) by omega)]
  refine ev_up ?_
  simp only [impl_PathRounds.j0, Bool.false_eq_true, if_false, if_pos h0, vals_len, if_pos h1, vals_rd _ _ h0 h1]
  have := impl_rounds_l0 (P := vals (fun x => walkT r u x (swOf p q)) r.length 0) (n := r.length) (vals_len _ _ _) (fun x => walkT r u x (swOf p q)) (fun y a b => ⟨vals_rd _ _ a b, t.walk _ a b⟩) x r.length m (walkT r u x (swOf p q)) 1 hm e hw.1 hw.2 (by omega) (by omega)
  unfold roundsOf
  rw [show ((1 + retN (fun x => walkT r u x (swOf p q)) x r.length (walkT r u x (swOf p q)) : Nat) : Int) = 1 + (retN (fun x => walkT r u x (swOf p q)) x r.length (walkT r u x (swOf p q)) : Int) from by omega]
  exact this
theorem repeatL_reps (ws : List UInt8) : ∀ n, Go.Lib.repeatL ws n = reps ws n
  | 0 => rfl
  | n + 1 => by rw [Go.Lib.repeatL, reps, repeatL_reps ws n]
theorem impl_pathText {r u : List Int} (h : transB r u = true) {p q : Int} (hs : slopeB p q = true) {x : Int} (h0 : 0 ≤ x) (h1 : x < r.length) : Ev (fun k => impl_PathText.f k r u x p q) (wB (reps (swOf p q) (roundsOf r u (swOf p q) x))) := by
  have t := two_of h
  have hn := t.pr.1
  have hb := (roundsOf_back t (swOf p q) h0 h1).2
  have hl := swOf_len p q
  unfold impl_PathText.f
  refine Ev.bind (impl_slopeWord p q) ?_
  refine Ev.bind (impl_pathRounds h hs h0 h1) ?_
  have hm : (swOf p q).length * roundsOf r u (swOf p q) x ≤ 12 * 25 := Nat.mul_le_mul hl (by omega)
  have e : strings_Repeat.f (wB (swOf p q)) ((roundsOf r u (swOf p q) x : Nat) : Int) = some (wB (reps (swOf p q) (roundsOf r u (swOf p q) x))) := by
    unfold strings_Repeat.f
    rw [wB_size, Int.toNat_natCast, if_pos ⟨by omega, by omega, by omega⟩, repeatL_reps]
    simp [wB]
  simp only [e, Option.bind_some]
  exact Ev.now _
/-! The same in the reference. -/
def hb (x : Int) : Int := x / 4
theorem div4 {x : Int} (h0 : 0 ≤ x) (h1 : x < 1000) : wrap64 (Int.tdiv x 4) = x / 4 := by
  rw [Int.tdiv_eq_ediv_of_nonneg h0]
  exact pw_wrap (by omega) (by omega)
theorem impl_bt_l0 {r u : List Int} {n : Nat} (h : Two r u n) (W : List UInt8) (hw : W.length ≤ 10000) : ∀ (suf pre out : List UInt8) (x : Int), W = pre ++ suf → out.length + suf.length ≤ 10000 → 0 ≤ x → x < n →
    Ev (fun k => impl_BounceText.l0 k (wB W) x (nB out) (pre.length : Int) r u) (wB (out ++ bText r u x suf), true)
  | [], pre, out, x, e, ho, h0, h1 => by
    have e2 : W = pre := by simpa using e
    refine ev_up ?_
    simp only [impl_BounceText.l0, wB_size, e2, if_neg (show ¬ (pre.length : Int) < pre.length by omega), bText, List.append_nil, nB_str]
    exact Ev.now _
  | c :: suf, pre, out, x, e, ho, h0, h1 => by
    have hn := h.pr.1
    have hlr := h.lr
    have hs := h.step c h0 h1
    have hi := impl_bt_l0 h W hw suf (pre ++ [c]) (out ++ [bLet x (stepT r u x c) c]) (stepT r u x c) (by simp [e]) (by simp at ho ⊢; omega) hs.1 hs.2
    rw [List.append_assoc] at hi
    have hl : pre.length < W.length := by rw [e]; simp
    have hb : bt (wB W) (pre.length : Int) = (c.toNat : Int) := by rw [e]; exact wB_mid _ _ _
    have hwr : wrap64 ((pre.length : Int) + 1) = ((pre ++ [c]).length : Int) := by rw [pw_wrap (by omega) (by omega)]; simp
    have s1 : nB out ++ [72] = nB (out ++ [72]) := nB_snoc out 72
    have s2 : nB out ++ [86] = nB (out ++ [86]) := nB_snoc out 86
    have s3 : nB out ++ [46] = nB (out ++ [46]) := nB_snoc out 46
    simp only [List.length_cons] at ho
    refine ev_up ?_
    simp only [impl_BounceText.l0, wB_size, if_pos (show (pre.length : Int) < W.length by omega), if_pos (Int.natCast_nonneg pre.length), hb, step_eq h c h0 h1, Option.bind_some, hwr, div4 h0 (show x < 1000 by omega), div4 hs.1 (show stepT r u x c < 1000 by omega), nB_len, if_pos (show out.length < 140737488355328 by omega), s1, s2, s3]
    rw [bText]
    unfold bLet at hi ⊢
    by_cases h4 : stepT r u x c / 4 = x / 4
    · simp only [if_pos h4] at hi ⊢
      by_cases hc : c = 114
      · simp only [if_pos hc] at hi ⊢
        simp only [if_pos ((u8_114 c).2 hc)]
        exact hi
      · simp only [if_neg hc] at hi ⊢
        simp only [if_neg (fun e => hc ((u8_114 c).1 e))]
        exact hi
    · simp only [if_neg h4] at hi ⊢
      exact hi
/-- What both answer. -/
def bounceW (l : List Cl) (i p q : Int) : List UInt8 := bText (unfR l) (unfU l) (4 * i) (reps (swOf p q) (roundsOf (unfR l) (unfU l) (swOf p q) (4 * i)))
def bounceOk (l : List Cl) (i p q : Int) : Bool := tableB l && decide (0 ≤ i ∧ i < l.length) && slopeB p q
def bounceOf (l : List Cl) (i p q : Int) : ByteArray × Bool := if bounceOk l i p q = true then (wB (bounceW l i p q), true) else (wB [], false)
theorem impl_bounce (l : List Cl) (i p q : Int) : Ev (fun k => impl_BounceText.f k l i p q) (bounceOf l i p q) := by
  unfold impl_BounceText.f bounceOf bounceOk
  refine Ev.bind (impl_unfold l) ?_
  have bad : ∀ r u, Ev (fun k => impl_BounceText.j0 k i p q true r u) (wB [], false) := fun r u => by
    refine ev_up ?_
    simp only [impl_BounceText.j0, if_true]
    exact Ev.now _
  unfold unfOf
  by_cases h : tableB l = true
  · simp only [h, if_true, Bool.true_and]
    by_cases h0 : i < 0
    · simp only [if_pos h0, decide_eq_false (show ¬ (0 ≤ i ∧ i < l.length) by omega), Bool.false_and, Bool.false_eq_true, if_false]
      exact bad _ _
    · simp only [if_neg h0]
      by_cases h1 : i ≥ (l.length : Int)
      · simp only [if_pos h1, decide_eq_false (show ¬ (0 ≤ i ∧ i < l.length) by omega), Bool.false_and, Bool.false_eq_true, if_false]
        exact bad _ _
      · simp only [if_neg h1, decide_eq_true (show 0 ≤ i ∧ i < l.length by omega), Bool.true_and]
        obtain ⟨hn, hv, _, _⟩ := tableB_side h
        have ht := unf_trans h
        have hlen : (unfR l).length = 4 * l.length := vals_len _ _ _
        have t := two_of ht
        have hx0 : 0 ≤ 4 * i := by omega
        have hx1 : 4 * i < ((unfR l).length : Int) := by omega
        refine Ev.bind (impl_slopeOk p q) ?_
        by_cases hs : slopeB p q = true
        · simp only [hs, if_true, Bool.not_true]
          refine ev_up ?_
          simp only [impl_BounceText.j0, Bool.false_eq_true, if_false, pw_wrap (a := 4 * i) (by omega) (by omega)]
          refine Ev.bind (impl_pathText ht hs hx0 hx1) ?_
          have hb := roundsOf_back t (swOf p q) hx0 hx1
          have hl := swOf_len p q
          have hm : (roundsOf (unfR l) (unfU l) (swOf p q) (4 * i)) * (swOf p q).length ≤ 25 * 12 := Nat.mul_le_mul (by omega) hl
          exact impl_bt_l0 t (reps (swOf p q) (roundsOf (unfR l) (unfU l) (swOf p q) (4 * i))) (by rw [reps_len]; omega) _ [] [] (4 * i) rfl (by rw [reps_len]; simp; omega) hx0 hx1
        · simp only [Bool.eq_false_iff.2 hs, Bool.not_false, Bool.false_eq_true, if_false]
          exact bad _ _
  · simp only [Bool.eq_false_iff.2 h, Bool.false_eq_true, if_false, Bool.false_and]
    exact bad _ _

def cntB : List UInt8 → Int
  | [] => 0
  | c :: cs => (if c = 46 then 0 else 1) + cntB cs
theorem u8_46 (c : UInt8) : ((c.toNat : Int) = 46) ↔ c = 46 := u8_is c 46 (by omega)
theorem impl_cb_l0 (W : List UInt8) (hw : W.length ≤ 10000) : ∀ (suf pre : List UInt8) (n : Int), W = pre ++ suf → 0 ≤ n → n + suf.length ≤ 10000 → Ev (fun k => impl_CountBounces.l0 k (wB W) n (pre.length : Int)) (n + cntB suf)
  | [], pre, n, e, h0, h1 => by
    have e2 : W = pre := by simpa using e
    refine ev_up ?_
    simp only [impl_CountBounces.l0, wB_size, e2, if_neg (show ¬ (pre.length : Int) < pre.length by omega), cntB, Int.add_zero]
    exact Ev.now _
  | c :: suf, pre, n, e, h0, h1 => by
    have hl : pre.length < W.length := by rw [e]; simp
    have hb : bt (wB W) (pre.length : Int) = (c.toNat : Int) := by rw [e]; exact wB_mid _ _ _
    have hwr : wrap64 ((pre.length : Int) + 1) = ((pre ++ [c]).length : Int) := by rw [pw_wrap (by omega) (by omega)]; simp
    simp only [List.length_cons] at h1
    refine ev_up ?_
    simp only [impl_CountBounces.l0, wB_size, if_pos (show (pre.length : Int) < W.length by omega), if_pos (Int.natCast_nonneg pre.length), hb, hwr, pw_wrap (a := n + 1) (by omega) (by omega), cntB]
    by_cases hc : c = 46
    · simp only [if_pos ((u8_46 c).2 hc), if_pos hc, Int.zero_add]
      exact impl_cb_l0 W hw suf (pre ++ [c]) n (by simp [e]) h0 (by omega)
    · simp only [if_neg (fun e => hc ((u8_46 c).1 e)), if_neg hc]
      rw [← Int.add_assoc]
      exact impl_cb_l0 W hw suf (pre ++ [c]) (n + 1) (by simp [e]) (by omega) (by omega)
theorem bounceW_len (l : List Cl) (i p q : Int) (h : bounceOk l i p q = true) : (bounceW l i p q).length ≤ 300 := by
  unfold bounceOk at h
  simp only [Bool.and_eq_true, decide_eq_true_eq] at h
  obtain ⟨⟨h1, h2⟩, h3⟩ := h
  obtain ⟨hn, hv, _, _⟩ := tableB_side h1
  have ht := unf_trans h1
  have hlen : (unfR l).length = 4 * l.length := vals_len _ _ _
  have t := two_of ht
  have hb := roundsOf_back t (swOf p q) (x := 4 * i) (by omega) (by omega)
  have hl := swOf_len p q
  unfold bounceW
  rw [bText_len, reps_len]
  have : (roundsOf (unfR l) (unfU l) (swOf p q) (4 * i)) * (swOf p q).length ≤ 25 * 12 := Nat.mul_le_mul (by omega) hl
  omega
def countB (l : List Cl) (i p q : Int) : Int := if bounceOk l i p q = true then cntB (bounceW l i p q) else -1
theorem impl_countB (l : List Cl) (i p q : Int) : Ev (fun k => impl_CountBounces.f k l i p q) (countB l i p q) := by
  unfold impl_CountBounces.f countB
  refine Ev.bind (impl_bounce l i p q) ?_
  unfold bounceOf
  by_cases h : bounceOk l i p q = true
  · have hl := bounceW_len l i p q h
    simp only [if_pos h]
    have := impl_cb_l0 (bounceW l i p q) (by omega) (bounceW l i p q) [] 0 rfl (by omega) (by omega)
    rw [Int.zero_add] at this
    exact this
  · simp only [if_neg h, Bool.false_eq_true, if_false]
    exact Ev.now _

def cntH : List UInt8 → Int
  | [] => 0
  | c :: cs => (if c = 72 then 1 else 0) + cntH cs
def cntV : List UInt8 → Int
  | [] => 0
  | c :: cs => (if c = 86 then 1 else 0) + cntV cs
theorem cntH_bd : ∀ ws : List UInt8, 0 ≤ cntH ws ∧ 0 ≤ cntV ws ∧ cntH ws + cntV ws ≤ ws.length
  | [] => by simp [cntH, cntV]
  | c :: cs => by
    have := cntH_bd cs
    simp only [cntH, cntV, List.length_cons]
    by_cases h : c = 72
    · rw [if_pos h, if_neg (show ¬ c = 86 by rw [h]; decide)]
      omega
    · rw [if_neg h]
      split <;> omega
theorem cnt_sum : ∀ ws : List UInt8, (∀ c ∈ ws, c = 46 ∨ c = 72 ∨ c = 86) → cntB ws = cntH ws + cntV ws
  | [], _ => rfl
  | c :: cs, h => by
    have ih := cnt_sum cs (fun d hd => h d (by simp [hd]))
    simp only [cntB, cntH, cntV, ih]
    rcases h c (by simp) with rfl | rfl | rfl
    · simp
    · simp; omega
    · simp; omega
/-- One step on an unfolded table, by the letter. -/
theorem b_step {l : List Cl} (h : tableB l = true) {x : Int} (h0 : 0 ≤ x) (h1 : x < 4 * l.length) (c : UInt8) :
    (bLet x (stepT (unfR l) (unfU l) x c) c = 46 → stepT (unfR l) (unfU l) x c % 4 = x % 4 ∧ (x % 4 = 0 → cx l (stepT (unfR l) (unfU l) x c / 4) + cy l (stepT (unfR l) (unfU l) x c / 4) = cx l (x / 4) + cy l (x / 4) + 1)) ∧
    (bLet x (stepT (unfR l) (unfU l) x c) c = 72 → stepT (unfR l) (unfU l) x c % 2 = 1 - x % 2 ∧ stepT (unfR l) (unfU l) x c % 4 / 2 = x % 4 / 2) ∧
    (bLet x (stepT (unfR l) (unfU l) x c) c = 86 → stepT (unfR l) (unfU l) x c % 2 = x % 2 ∧ stepT (unfR l) (unfU l) x c % 4 / 2 = 1 - x % 4 / 2) := by
  obtain ⟨hn, hv0, hv, _⟩ := tableB_side h
  obtain ⟨i, k, rfl, i0, i1, k0, k1⟩ : ∃ i k : Int, x = 4 * i + k ∧ 0 ≤ i ∧ i < l.length ∧ 0 ≤ k ∧ k < 4 := ⟨x / 4, x % 4, by omega, by omega, by omega, by omega, by omega⟩
  have ei : (4 * i + k) / 4 = i := by omega
  have ek : (4 * i + k) % 4 = k := by omega
  have er : rd (unfR l) (4 * i + k) = gR l (4 * i + k) := vals_rd (gR l) (4 * l.length) h0 (by omega)
  have eu : rd (unfU l) (4 * i + k) = gU l (4 * i + k) := vals_rd (gU l) (4 * l.length) h0 (by omega)
  unfold stepT
  by_cases hc : c = 114
  · simp only [if_pos hc, er, gR_form l k0 k1]
    have hd : dirX k = if k % 2 = 1 then -1 else 1 := rfl
    unfold stepX
    by_cases hj : cellAt l (cx l i + dirX k) (cy l i) < 0
    · simp only [if_pos hj]
      have e1 : (4 * i + (k + dirX k)) / 4 = i := by split at hd <;> omega
      unfold bLet
      rw [e1, ei, if_pos rfl, if_pos hc]
      refine ⟨fun e => absurd e (by decide), fun _ => ?_, fun e => absurd e (by decide)⟩
      split at hd <;> omega
    · simp only [if_neg hj]
      have hh := cellAt_hit (l := l) (x := cx l i + dirX k) (y := cy l i) (by omega)
      have hb := cellAt_bd l (cx l i + dirX k) (cy l i)
      generalize hJ : cellAt l (cx l i + dirX k) (cy l i) = j at *
      have e1 : (4 * j + k) / 4 = j := by omega
      have hx1 : cx l j = cx l i + dirX k := hh.1
      have hy1 : cy l j = cy l i := hh.2
      have hne : ¬ j = i := fun e => by rw [e] at hx1; split at hd <;> omega
      unfold bLet
      rw [e1, ei, if_neg hne]
      refine ⟨fun _ => ⟨by omega, fun hk => ?_⟩, fun e => absurd e (by decide), fun e => absurd e (by decide)⟩
      rw [hx1, hy1]
      split at hd <;> omega
  · simp only [if_neg hc, eu, gU_form l k0 k1]
    have hd : dirY k = if k / 2 % 2 = 1 then -1 else 1 := rfl
    unfold stepY
    by_cases hj : cellAt l (cx l i) (cy l i + dirY k) < 0
    · simp only [if_pos hj]
      have e1 : (4 * i + (k + dirY k * 2)) / 4 = i := by split at hd <;> omega
      unfold bLet
      rw [e1, ei, if_pos rfl, if_neg hc]
      refine ⟨fun e => absurd e (by decide), fun e => absurd e (by decide), fun _ => ?_⟩
      split at hd <;> omega
    · simp only [if_neg hj]
      have hh := cellAt_hit (l := l) (x := cx l i) (y := cy l i + dirY k) (by omega)
      have hb := cellAt_bd l (cx l i) (cy l i + dirY k)
      generalize hJ : cellAt l (cx l i) (cy l i + dirY k) = j at *
      have e1 : (4 * j + k) / 4 = j := by omega
      have hx1 : cx l j = cx l i := hh.1
      have hy1 : cy l j = cy l i + dirY k := hh.2
      have hne : ¬ j = i := fun e => by rw [e] at hy1; split at hd <;> omega
      unfold bLet
      rw [e1, ei, if_neg hne]
      refine ⟨fun _ => ⟨by omega, fun hk => ?_⟩, fun e => absurd e (by decide), fun e => absurd e (by decide)⟩
      rw [hx1, hy1]
      split at hd <;> omega
theorem bLet_three (x y : Int) (c : UInt8) : bLet x y c = 46 ∨ bLet x y c = 72 ∨ bLet x y c = 86 := by
  unfold bLet
  split
  · split <;> simp
  · simp
theorem walk_parity {l : List Cl} (h : tableB l = true) : ∀ (ws : List UInt8) {x : Int}, 0 ≤ x → x < 4 * l.length →
    (walkT (unfR l) (unfU l) x ws % 2 - x % 2 - cntH (bText (unfR l) (unfU l) x ws)) % 2 = 0 ∧ (walkT (unfR l) (unfU l) x ws % 4 / 2 - x % 4 / 2 - cntV (bText (unfR l) (unfU l) x ws)) % 2 = 0
  | [], x, h0, h1 => by simp [walkT, bText, cntH, cntV]
  | c :: ws, x, h0, h1 => by
    have ht := two_of (unf_trans h)
    have hlen : (unfR l).length = 4 * l.length := vals_len _ _ _
    have hs := ht.step c (x := x) h0 (by omega)
    have ih := walk_parity h ws (x := stepT (unfR l) (unfU l) x c) hs.1 (by omega)
    have hb := b_step h h0 h1 c
    have e : walkT (unfR l) (unfU l) x (c :: ws) = walkT (unfR l) (unfU l) (stepT (unfR l) (unfU l) x c) ws := rfl
    rw [e, bText, cntH, cntV]
    rcases bLet_three x (stepT (unfR l) (unfU l) x c) c with hl | hl | hl
    · have hq := hb.1 hl
      rw [hl, if_neg (by decide), if_neg (by decide)]
      omega
    · have hq := hb.2.1 hl
      rw [hl, if_pos rfl, if_neg (by decide)]
      omega
    · have hq := hb.2.2 hl
      rw [hl, if_neg (by decide), if_pos rfl]
      omega
/-- Without a reflection a path from a first copy goes on to the right and up. -/
theorem walk_far {l : List Cl} (h : tableB l = true) : ∀ (ws : List UInt8) {x : Int}, 0 ≤ x → x < 4 * l.length → x % 4 = 0 → cntB (bText (unfR l) (unfU l) x ws) = 0 →
    cx l (walkT (unfR l) (unfU l) x ws / 4) + cy l (walkT (unfR l) (unfU l) x ws / 4) = cx l (x / 4) + cy l (x / 4) + ws.length
  | [], x, h0, h1, hk, _ => by simp [walkT]
  | c :: ws, x, h0, h1, hk, hz => by
    have ht := two_of (unf_trans h)
    have hlen : (unfR l).length = 4 * l.length := vals_len _ _ _
    have hs := ht.step c (x := x) h0 (by omega)
    have hb := (b_step h h0 h1 c).1
    have hnn : ∀ ws : List UInt8, 0 ≤ cntB ws := fun ws => by
      induction ws with
      | nil => exact Int.le_refl 0
      | cons c cs ih => simp only [cntB]; split <;> omega
    have e : walkT (unfR l) (unfU l) x (c :: ws) = walkT (unfR l) (unfU l) (stepT (unfR l) (unfU l) x c) ws := rfl
    rw [bText, cntB] at hz
    have h2 := hnn (bText (unfR l) (unfU l) (stepT (unfR l) (unfU l) x c) ws)
    have hl : bLet x (stepT (unfR l) (unfU l) x c) c = 46 := by
      refine Classical.byContradiction fun hn => ?_
      rw [if_neg hn] at hz
      omega
    rw [if_pos hl] at hz
    have hq := hb hl
    have ih := walk_far h ws (x := stepT (unfR l) (unfU l) x c) hs.1 (by omega) (by omega) (by omega)
    rw [e, ih, hq.2 hk, List.length_cons]
    omega
/-- On a table of one cell each step is a reflection. -/
theorem walk_one {l : List Cl} (h : tableB l = true) (hl1 : l.length = 1) : ∀ (ws : List UInt8) {x : Int}, 0 ≤ x → x < 4 → cntB (bText (unfR l) (unfU l) x ws) = ws.length
  | [], x, _, _ => rfl
  | c :: ws, x, h0, h1 => by
    have ht := two_of (unf_trans h)
    have hlen : (unfR l).length = 4 * l.length := vals_len _ _ _
    have hs := ht.step c (x := x) h0 (by omega)
    have ih := walk_one h hl1 ws (x := stepT (unfR l) (unfU l) x c) hs.1 (by omega)
    rw [bText, cntB, ih]
    have hl : ¬ bLet x (stepT (unfR l) (unfU l) x c) c = 46 := by
      unfold bLet
      rw [if_pos (by omega)]
      split <;> decide
    rw [if_neg hl, List.length_cons]
    omega
theorem bounce_law {l : List Cl} {i p q : Int} (h : bounceOk l i p q = true) : cntH (bounceW l i p q) % 2 = 0 ∧ cntV (bounceW l i p q) % 2 = 0 ∧ cntB (bounceW l i p q) = cntH (bounceW l i p q) + cntV (bounceW l i p q) ∧ 0 < cntB (bounceW l i p q) ∧ (l.length = 1 → cntB (bounceW l i p q) = (bounceW l i p q).length) := by
  unfold bounceOk at h
  simp only [Bool.and_eq_true, decide_eq_true_eq] at h
  obtain ⟨⟨ht, hi⟩, hs⟩ := h
  have t := two_of (unf_trans ht)
  have hlen : (unfR l).length = 4 * l.length := vals_len _ _ _
  have hx0 : 0 ≤ 4 * i := by omega
  have hx1 : 4 * i < ((unfR l).length : Int) := by omega
  have hback := (roundsOf_back t (swOf p q) hx0 hx1).1
  have hpar := walk_parity ht (reps (swOf p q) (roundsOf (unfR l) (unfU l) (swOf p q) (4 * i))) (x := 4 * i) hx0 (by omega)
  rw [hback] at hpar
  unfold bounceW
  refine ⟨by omega, by omega, cnt_sum _ (bText_mem _ _ _ _), ?_, fun h1 => ?_⟩
  · have hnn : ∀ ws : List UInt8, 0 ≤ cntB ws := fun ws => by
      induction ws with
      | nil => exact Int.le_refl 0
      | cons c cs ih => simp only [cntB]; split <;> omega
    refine Classical.byContradiction fun hn => ?_
    have hz : cntB (bText (unfR l) (unfU l) (4 * i) (reps (swOf p q) (roundsOf (unfR l) (unfU l) (swOf p q) (4 * i)))) = 0 := by
      have := hnn (bText (unfR l) (unfU l) (4 * i) (reps (swOf p q) (roundsOf (unfR l) (unfU l) (swOf p q) (4 * i))))
      omega
    have hf := walk_far ht _ (x := 4 * i) hx0 (by omega) (by omega) hz
    rw [hback] at hf
    have hwl : 1 ≤ (swOf p q).length := by
      unfold swOf
      rw [if_pos hs, sGo_len]
      have := (slopeB_side hs).2.2
      omega
    have hrl : (reps (swOf p q) (roundsOf (unfR l) (unfU l) (swOf p q) (4 * i))).length = roundsOf (unfR l) (unfU l) (swOf p q) (4 * i) * (swOf p q).length := reps_len _ _
    have hr1 : 1 ≤ roundsOf (unfR l) (unfU l) (swOf p q) (4 * i) := by unfold roundsOf; omega
    have : 1 ≤ roundsOf (unfR l) (unfU l) (swOf p q) (4 * i) * (swOf p q).length := Nat.mul_le_mul hr1 hwl
    omega
  · rw [walk_one ht h1 _ hx0 (by omega), bText_len]

theorem slope_small (p q : Nat) (hp : p < 7) (hq : q < 6) (h : p + q ≠ 0) : slopeB ((p : Int) / (Int.gcd p q : Int)) ((q : Int) / (Int.gcd p q : Int)) = true ∧ (Int.gcd p q : Int) ≠ 0 ∧ (0 : Int) ≤ (p : Int) / (Int.gcd p q : Int) ∧ (p : Int) / (Int.gcd p q : Int) ≤ 6 ∧ (0 : Int) ≤ (q : Int) / (Int.gcd p q : Int) ∧ (q : Int) / (Int.gcd p q : Int) ≤ 5 := by
  have hg : 0 < Nat.gcd p q := Nat.pos_of_ne_zero (fun e => h (by have := Nat.gcd_eq_zero_iff.1 e; omega))
  have e : Int.gcd (p : Int) (q : Int) = Nat.gcd p q := rfl
  have e1 : (p : Int) / ((Nat.gcd p q : Nat) : Int) = ((p / Nat.gcd p q : Nat) : Int) := rfl
  have e2 : (q : Int) / ((Nat.gcd p q : Nat) : Int) = ((q / Nat.gcd p q : Nat) : Int) := rfl
  have h1 := Nat.div_le_self p (Nat.gcd p q)
  have h2 := Nat.div_le_self q (Nat.gcd p q)
  have h3 := Int.gcd_ediv_gcd_ediv_gcd (i := (p : Int)) (j := (q : Int)) hg
  rw [e, e1, e2] at h3
  rw [e, e1, e2]
  have e3 : Int.gcd ((p / Nat.gcd p q : Nat) : Int) ((q / Nat.gcd p q : Nat) : Int) = 1 := h3
  generalize p / Nat.gcd p q = P at *
  generalize q / Nat.gcd p q = Q at *
  generalize Nat.gcd p q = G at *
  refine ⟨?_, by omega, by omega, by omega, by omega, by omega⟩
  unfold slopeB
  rw [decide_eq_true e3, decide_eq_true (show (0 : Int) ≤ (P : Int) ∧ (P : Int) ≤ 12 ∧ 0 ≤ (Q : Int) ∧ (Q : Int) ≤ 12 ∧ (P : Int) + (Q : Int) ≤ 12 by omega)]
  rfl
theorem slope_gcd (a b : Int) (ha : 0 ≤ a) (hb : 0 ≤ b) (hb1 : b < 10) : Ev (fun k => spec_l08Gcd.f k a b) (Int.gcd a b : Int) := by
  unfold spec_l08Gcd.f
  exact ev_k (n := 10) (fun k hk => spec_gcd_l0 k a b ha hb (by omega))
theorem slope_one : slopeB 1 0 = true := by
  have e : Int.gcd 1 0 = 1 := Int.gcd_zero_right 1
  unfold slopeB
  rw [decide_eq_true e, decide_eq_true (show (0 : Int) ≤ 1 ∧ (1 : Int) ≤ 12 ∧ (0 : Int) ≤ 0 ∧ (0 : Int) ≤ 12 ∧ (1 : Int) + 0 ≤ 12 by omega)]
  rfl
theorem slope_tail0 : Ev (fun k => (spec_l08Gcd.f k 1 0).bind fun t => (if t = 0 then (none : Option (Int × Int)) else (some (wrap64 ((1 : Int) / t), wrap64 (Int.tdiv 0 t))))) (1, 0) := by
  have hg := slope_gcd 1 0 (by omega) (by omega) (by omega)
  rw [Int.gcd_zero_right] at hg
  refine Ev.bind hg ?_
  have e1 : ((Int.natAbs 1 : Nat) : Int) = 1 := rfl
  rw [e1, if_neg (by omega), Int.ediv_one, Int.tdiv_one, pw_wrap (a := 1) (by omega) (by omega), pw_wrap (a := 0) (by omega) (by omega)]
  exact Ev.now _
theorem slope_tail1 (p q : Int) (p0 : 0 ≤ p) (p1 : p < 7) (q0 : 0 ≤ q) (q1 : q < 6) (h : ¬ p + q = 0) : ∃ a b, Ev (fun k => (spec_l08Gcd.f k p q).bind fun t => (if t = 0 then (none : Option (Int × Int)) else (some (wrap64 (Int.tdiv p t), wrap64 (Int.tdiv q t))))) (a, b) ∧ slopeB a b = true := by
  have hh := slope_small p.toNat q.toNat (by omega) (by omega) (by omega)
  rw [show ((p.toNat : Nat) : Int) = p from by omega, show ((q.toNat : Nat) : Int) = q from by omega] at hh
  obtain ⟨s1, s2, s3, s4, s5, s6⟩ := hh
  have hg := slope_gcd p q p0 q0 (by omega)
  generalize ((Int.gcd p q : Nat) : Int) = G at *
  refine ⟨p / G, q / G, Ev.bind hg ?_, s1⟩
  rw [if_neg s2, Int.tdiv_eq_ediv_of_nonneg p0, Int.tdiv_eq_ediv_of_nonneg q0, pw_wrap (a := p / G) (by omega) (by omega), pw_wrap (a := q / G) (by omega) (by omega)]
  exact Ev.now _
theorem slope_some (l : List Int) (hl : l.length ≤ 4611686018427387904) (n : Int) (h0 : 0 ≤ n) (hn : n ≤ 1000000) : ∃ p q, Ev (fun k => spec_MakeSlope.f k l n) (p, q) ∧ slopeB p q = true := by
  obtain ⟨t1, t2, e, ht⟩ := skip_some l hl n h0 hn
  obtain ⟨p, u1, u2, e1, p0, p1, hu⟩ := below_some l hl t1 t2 ht 7 (by omega) (by omega)
  obtain ⟨q, w1, w2, e2, q0, q1, hw⟩ := below_some l hl u1 u2 hu 6 (by omega) (by omega)
  have hw0 : wrap64 (p + q) = p + q := pw_wrap (by omega) (by omega)
  unfold spec_MakeSlope.f
  by_cases hz : p + q = 0
  · have hq : q = 0 := by omega
    subst hq
    refine ⟨1, 0, Ev.bind e ?_, slope_one⟩
    simp only [e1, e2, Option.bind_some, hw0, if_pos hz]
    exact slope_tail0
  · obtain ⟨a, b, hr, hs⟩ := slope_tail1 p q p0 p1 q0 q1 hz
    refine ⟨a, b, Ev.bind e ?_, hs⟩
    simp only [e1, e2, Option.bind_some, hw0, if_neg hz]
    exact hr
theorem fb_l0 {t : List Cl} {i p q : Int} (h : bounceOk t i p q = true) (suf pre : List UInt8) (H V : Int) (e : bounceW t i p q = pre ++ suf) (hH : 0 ≤ H) (hV : 0 ≤ V) (e1 : H + cntH suf = cntH (bounceW t i p q)) (e2 : V + cntV suf = cntV (bounceW t i p q)) :
    Ev (fun k => laws_FnBounces.l0 k t p q i (wB (bounceW t i p q)) true true (cntB (bounceW t i p q)) H V (pre.length : Int) (unfR t) (unfU t)) true := by
  have hl := bounceW_len t i p q h
  have hcb := cntH_bd (bounceW t i p q)
  have hmem : ∀ c ∈ bounceW t i p q, c = 46 ∨ c = 72 ∨ c = 86 := fun c hc => bText_mem _ _ _ _ c hc
  induction suf generalizing pre H V with
  | nil =>
    have e3 : bounceW t i p q = pre := by simpa using e
    obtain ⟨b1, b2, b3, b4, b5⟩ := bounce_law h
    simp only [cntH, cntV, Int.add_zero] at e1 e2
    have h' := h
    unfold bounceOk at h'
    simp only [Bool.and_eq_true, decide_eq_true_eq] at h'
    obtain ⟨⟨ht, hi⟩, hs⟩ := h'
    obtain ⟨hn, _, _, _⟩ := tableB_side ht
    have hlen : (unfR t).length = 4 * t.length := vals_len _ _ _
    have hpt := impl_pathText (unf_trans ht) hs (x := 4 * i) (by omega) (by omega)
    have hsz : (wB (bounceW t i p q)).size = (wB (reps (swOf p q) (roundsOf (unfR t) (unfU t) (swOf p q) (4 * i)))).size := by
      rw [wB_size, wB_size]
      unfold bounceW
      rw [bText_len]
    refine ev_up ?_
    simp only [laws_FnBounces.l0, wB_size, if_neg (show ¬ (pre.length : Int) < ((bounceW t i p q).length : Int) by rw [e3]; omega), if_true, Int.tmod_eq_emod_of_nonneg hH, Int.tmod_eq_emod_of_nonneg hV, if_pos (show H % 2 = 0 by omega), if_pos (show V % 2 = 0 by omega), pw_wrap (a := H + V) (by omega) (by omega), if_pos (show cntB (bounceW t i p q) = H + V by omega), if_pos (show cntB (bounceW t i p q) > 0 from b4), pw_wrap (a := 4 * i) (by omega) (by omega)]
    refine Ev.bind hpt ?_
    rw [wB_size, wB_size] at hsz
    simp only [wB_size, hsz, if_true]
    by_cases h1 : (t.length : Int) > 1
    · simp only [if_pos h1]
      exact Ev.now _
    · simp only [if_neg h1]
      rw [b5 (by omega), hsz]
      simp only [beq_self_eq_true]
      exact Ev.now _
  | cons c suf ih =>
    have hlt : pre.length < (bounceW t i p q).length := by rw [e]; simp
    have hb : bt (wB (bounceW t i p q)) (pre.length : Int) = (c.toNat : Int) := by rw [e]; exact wB_mid _ _ _
    have hwr : wrap64 ((pre.length : Int) + 1) = ((pre ++ [c]).length : Int) := by rw [pw_wrap (by omega) (by omega)]; simp
    have hs := cntH_bd suf
    simp only [cntH, cntV] at e1 e2
    refine ev_up ?_
    simp only [laws_FnBounces.l0, wB_size, if_pos (show (pre.length : Int) < ((bounceW t i p q).length : Int) by omega), if_pos (Int.natCast_nonneg pre.length), hb, hwr]
    rcases hmem c (by rw [e]; simp) with rfl | rfl | rfl
    · rw [if_neg (show ¬ (46 : UInt8) = 72 by decide)] at e1
      rw [if_neg (show ¬ (46 : UInt8) = 86 by decide)] at e2
      simp only [show ((46 : UInt8).toNat : Int) = 46 from rfl, if_neg (show ¬ (46 : Int) = 72 by omega), if_neg (show ¬ (46 : Int) = 86 by omega), if_true]
      exact ih (pre ++ [46]) H V (by simp [e]) hH hV (by omega) (by omega)
    · rw [if_pos rfl] at e1
      rw [if_neg (show ¬ (72 : UInt8) = 86 by decide)] at e2
      simp only [show ((72 : UInt8).toNat : Int) = 72 from rfl, if_true, pw_wrap (a := H + 1) (by omega) (by omega)]
      exact ih (pre ++ [72]) (H + 1) V (by simp [e]) (by omega) hV (by omega) (by omega)
    · rw [if_neg (show ¬ (86 : UInt8) = 72 by decide)] at e1
      rw [if_pos rfl] at e2
      simp only [show ((86 : UInt8).toNat : Int) = 86 from rfl, if_neg (show ¬ (86 : Int) = 72 by omega), if_true, pw_wrap (a := V + 1) (by omega) (by omega)]
      exact ih (pre ++ [86]) H (V + 1) (by simp [e]) hH (by omega) (by omega) (by omega)
theorem FnBounces : laws_FnBounces.Pure := by
  intro l hl _
  apply Ev.rounds
  unfold laws_FnBounces.f
  by_cases hlen : (l.length : Int) > 1048576
  · simp only [if_pos hlen]
    exact Ev.now _
  · simp only [if_neg hlen]
    obtain ⟨t, hm, ht, ht4⟩ := table_some l (by omega)
    obtain ⟨p, q, hpq, hs⟩ := slope_some l (by omega) 40 (by omega) (by omega)
    obtain ⟨v, hv, v0, v1⟩ := num_some l (by omega) 60 (by omega) (by omega)
    have hn := (tableB_side ht).1
    have ti0 : 0 ≤ Int.tmod v (t.length : Int) := Int.tmod_nonneg _ v0
    have ti1 : Int.tmod v (t.length : Int) < t.length := Int.tmod_lt_of_pos _ (by omega)
    refine Ev.bind hm ?_
    refine Ev.bind hpq ?_
    refine Ev.bind hv ?_
    simp only [if_neg (show ¬ (t.length : Int) = 0 by omega)]
    generalize Int.tmod v (t.length : Int) = i at *
    have hok : bounceOk t i p q = true := by
      unfold bounceOk
      rw [ht, hs, decide_eq_true (show 0 ≤ i ∧ i < t.length from ⟨ti0, ti1⟩)]
      rfl
    refine Ev.bind (impl_bounce t i p q) ?_
    refine Ev.bind (impl_unfold t) ?_
    refine Ev.bind (impl_countB t i p q) ?_
    rw [bounceOf, countB, unfOf, if_pos hok, if_pos hok, if_pos ht]
    exact fb_l0 hok (bounceW t i p q) [] 0 0 rfl (by omega) (by omega) (by omega) (by omega)

end Go.Proofs.Ytbolkipmehmncaa.Pure
