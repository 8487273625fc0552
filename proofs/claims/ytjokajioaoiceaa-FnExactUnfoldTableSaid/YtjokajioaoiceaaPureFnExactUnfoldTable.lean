/- The program's UnfoldTable returns what the reference's returns, for all arguments: no condition. -/
import Derived.Test.YtjokajioaoiceaaSayFnExactUnfoldTable
namespace Go.Proofs.Ytjokajioaoiceaa.Pure
open Go.RowKit Go.Proofs.Ytjokajioaoiceaa.S Go.Proofs.YtjokajioaoiceaaW.PrintWords Go.Proofs.YtjokajioaoiceaaW.PrintLast
set_option linter.unusedVariables false
set_option linter.unusedSimpArgs false

theorem ev_up {α : Type} {g : Nat → Option α} {r : α} (h : Ev (fun k => g (k + 1)) r) : Ev g r := Ev.step (fun _ => rfl) h
theorem ev_k {α : Type} {g : Nat → Option α} {r : α} {n : Nat} (h : ∀ k, n < k → g k = some r) : Ev g r := ⟨n + 1, fun k hk => h k (by omega)⟩

theorem pw_wf {a : Int} (h : (Lit.int .i64 a).wf = true) : -9223372036854775808 ≤ a ∧ a ≤ 9223372036854775807 := by
  simp [Lit.wf, IntKind.min, IntKind.max, IntKind.signed, IntKind.bits] at h
  omega
theorem pw_wrap {a : Int} (h0 : -9223372036854775808 ≤ a) (h1 : a ≤ 9223372036854775807) : wrap64 a = a := by
  unfold wrap64
  omega

theorem l01In_eq (a b c : Int) : spec_l01In.f a b c = some (decide (b ≤ a ∧ a ≤ c)) := by
  unfold spec_l01In.f
  split
  · rename_i h
    by_cases h2 : a ≤ c
    · rw [decide_eq_true h2, decide_eq_true ⟨h, h2⟩]
    · rw [decide_eq_false h2, decide_eq_false (fun h => h2 h.2)]
  · rename_i h
    rw [decide_eq_false (fun h2 => h h2.1)]

/-! Lists without a number twice; what is met from a place. -/
theorem nodup_len (n : Nat) : ∀ l : List Int, l.Nodup → (∀ x ∈ l, 0 ≤ x ∧ x < n) → l.length ≤ n := by
  induction n with
  | zero =>
    intro l _ h
    cases l with
    | nil => simp
    | cons x l => have := h x (by simp); omega
  | succ n ih =>
    intro l hn h
    have h2 := ih (l.filter (fun x => x != (n : Int))) (hn.filter _) (fun x hx => by
      have h3 := List.mem_filter.1 hx
      have h4 := h x h3.1
      have h5 : x ≠ (n : Int) := by simpa using h3.2
      omega)
    have h3 : l.length ≤ (l.filter (fun x => x != (n : Int))).length + 1 := by
      clear h h2 ih
      induction l with
      | nil => simp
      | cons y l ihl =>
        have hn2 := List.nodup_cons.1 hn
        by_cases hy : y = (n : Int)
        · have : l.filter (fun x => x != (n : Int)) = l := List.filter_eq_self.2 (fun x hx => by
            have : x ≠ (n : Int) := fun e => hn2.1 (by rw [hy, ← e]; exact hx)
            simpa using this)
          simp [hy, this]
        · have := ihl hn2.2
          simp [hy]
          omega
    omega
def push (q : List Int) (k : Int) : List Int := if 0 ≤ k ∧ k ∉ q then q ++ [k] else q
def pushAll (q : List Int) (ks : List Int) : List Int := ks.foldl push q
/-- Distinct numbers below n. -/
def Few (n : Nat) (q : List Int) : Prop := q.Nodup ∧ ∀ x ∈ q, 0 ≤ x ∧ x < (n : Int)
theorem few_push {n : Nat} {q : List Int} {k : Int} (h : Few n q) (hk : k < n) : Few n (push q k) := by
  unfold push
  split
  · rename_i h2
    refine ⟨?_, fun x hx => ?_⟩
    · rw [List.nodup_append]
      refine ⟨h.1, by simp, ?_⟩
      intro a ha b hb
      simp at hb
      subst hb
      exact fun e => h2.2 (e ▸ ha)
    · rcases List.mem_append.1 hx with hx | hx
      · exact h.2 x hx
      · simp at hx; subst hx; exact ⟨h2.1, hk⟩
  · exact h
theorem push_len (q : List Int) (k : Int) : q.length ≤ (push q k).length := by unfold push; split <;> simp
theorem few_pushAll {n : Nat} : ∀ (ks q : List Int), Few n q → (∀ k ∈ ks, k < n) → Few n (pushAll q ks) ∧ q.length ≤ (pushAll q ks).length
  | [], q, h, _ => ⟨h, Nat.le_refl _⟩
  | k :: ks, q, h, hk => by
    have h1 := few_push h (hk k (by simp))
    have h2 := few_pushAll ks (push q k) h1 (fun x hx => hk x (by simp [hx]))
    exact ⟨h2.1, Nat.le_trans (push_len q k) h2.2⟩
theorem few_len {n : Nat} {q : List Int} (h : Few n q) : q.length ≤ n := nodup_len n q h.1 h.2
/-- The queue behind the places from 'at_' on. -/
def bfs (nb : Int → List Int) : Nat → List Int → Nat → List Int
  | 0, q, _ => q
  | f + 1, q, i => if h : i < q.length then bfs nb f (pushAll q (nb q[i])) (i + 1) else q
theorem bfs_done (nb : Int → List Int) (f : Nat) (q : List Int) (i : Nat) (h : ¬ i < q.length) : bfs nb f q i = q := by
  cases f with
  | zero => rfl
  | succ f => rw [bfs, dif_neg h]
theorem bfs_few {n : Nat} (nb : Int → List Int) (hnb : ∀ x : Int, 0 ≤ x → x < (n : Int) → ∀ k ∈ nb x, k < (n : Int)) : ∀ (f : Nat) (q : List Int) (i : Nat), Few n q → Few n (bfs nb f q i)
  | 0, q, i, h => h
  | f + 1, q, i, h => by
    rw [bfs]
    split
    · rename_i hi
      have := h.2 _ (List.getElem_mem hi)
      exact bfs_few nb hnb f _ _ (few_pushAll (nb q[i]) q h (hnb q[i] this.1 this.2)).1
    · exact h

/-! Small words on lists, read at a place. -/
theorem len_snoc {α : Type} (p : List α) (x : α) : (p ++ [x]).length = p.length + 1 := by simp
theorem wrap_snoc {α : Type} {p s : List α} {x : α} (h : (p ++ x :: s).length ≤ 4611686018427387904) : wrap64 ((p.length : Int) + 1) = ((p ++ [x]).length : Int) := by
  simp at h ⊢
  unfold wrap64
  omega
theorem lt_mid {α : Type} (p s : List α) (x : α) : ((p.length : Nat) : Int) < ((p ++ x :: s).length : Int) := by simp; omega
theorem nlt_end {α : Type} (p : List α) : ¬ ((p.length : Nat) : Int) < ((p ++ []).length : Int) := by simp
theorem rd_mid (p s : List Int) (x : Int) : rd (p ++ x :: s) (p.length : Int) = x := by simp [rd, List.getD]
theorem nil_or_snoc {α : Type} (l : List α) : l = [] ∨ ∃ p x, l = p ++ [x] := by
  rcases List.eq_nil_or_concat l with h | ⟨p, x, h⟩
  · exact .inl h
  · exact .inr ⟨p, x, by rw [h]; simp⟩

theorem spec_has_l0 (l : List Int) (hl : l.length ≤ 4611686018427387904) (x : Int) : ∀ (suf pre : List Int), l = pre ++ suf →
    Ev (fun k => spec_l02Has.l0 k x l (l.length : Int) (pre.length : Int)) (decide (x ∈ suf)) := by
  intro suf
  induction suf with
  | nil =>
    intro pre h
    subst h
    refine ev_up ?_
    simp only [spec_l02Has.l0, if_neg (nlt_end pre)]
    simpa using Ev.now false
  | cons c suf ih =>
    intro pre h
    have := ih (pre ++ [c]) (by simp [h])
    subst h
    refine ev_up ?_
    by_cases hc : c = x
    · simp only [spec_l02Has.l0, if_pos (lt_mid pre suf c), if_pos (Int.natCast_nonneg pre.length), rd_mid, if_pos hc]
      simpa [hc] using Ev.now true
    · simp only [spec_l02Has.l0, if_pos (lt_mid pre suf c), if_pos (Int.natCast_nonneg pre.length), rd_mid, if_neg hc, wrap_snoc hl]
      rw [show decide (x ∈ c :: suf) = decide (x ∈ suf) by simp [Ne.symm hc]]
      exact this
theorem spec_has (l : List Int) (hl : l.length ≤ 4611686018427387904) (x : Int) : Ev (fun k => spec_l02Has.f k l x) (decide (x ∈ l)) := spec_has_l0 l hl x l [] rfl

/-- The place of the first x, or -1. -/
def idxGo (x : Int) : List Int → Int → Int
  | [], _ => -1
  | c :: cs, i => if c = x then i else idxGo x cs (i + 1)
theorem impl_index_l0 (l : List Int) (hl : l.length ≤ 4611686018427387904) (x : Int) : ∀ (suf pre : List Int), l = pre ++ suf →
    Ev (fun k => slices_Index_int_int.l0 k l x (l.length : Int) (pre.length : Int)) (idxGo x suf pre.length) := by
  intro suf
  induction suf with
  | nil =>
    intro pre h
    subst h
    refine ev_up ?_
    simp only [slices_Index_int_int.l0, if_neg (nlt_end pre)]
    exact Ev.now _
  | cons c suf ih =>
    intro pre h
    have := ih (pre ++ [c]) (by simp [h])
    subst h
    refine ev_up ?_
    by_cases hc : c = x
    · simp only [slices_Index_int_int.l0, if_pos (lt_mid pre suf c), if_pos (Int.natCast_nonneg pre.length), rd_mid, if_pos hc.symm]
      rw [idxGo, if_pos hc]
      exact Ev.now _
    · simp only [slices_Index_int_int.l0, if_pos (lt_mid pre suf c), if_pos (Int.natCast_nonneg pre.length), rd_mid, if_neg (Ne.symm hc), wrap_snoc hl]
      rw [idxGo, if_neg hc, show (pre.length : Int) + 1 = ((pre ++ [c]).length : Int) by simp]
      exact this
theorem impl_index (l : List Int) (hl : l.length ≤ 4611686018427387904) (x : Int) : Ev (fun k => slices_Index_int_int.f k l x) (idxGo x l 0) := impl_index_l0 l hl x l [] rfl
theorem idx_mem (x : Int) : ∀ (l : List Int) (i : Int), 0 ≤ i → (decide (idxGo x l i ≥ 0) = decide (x ∈ l))
  | [], i, _ => by simp [idxGo]
  | c :: cs, i, h => by
    by_cases hc : c = x
    · simp [idxGo, hc, h]
    · rw [idxGo, if_neg hc, idx_mem x cs (i + 1) (by omega)]
      simp [Ne.symm hc]
theorem impl_contains (l : List Int) (hl : l.length ≤ 4611686018427387904) (x : Int) : Ev (fun k => slices_Contains_int_int.f k l x) (decide (x ∈ l)) := by
  unfold slices_Contains_int_int.f
  refine Ev.bind (impl_index l hl x) ?_
  simp only [idx_mem x l 0 (Int.le_refl 0)]
  exact Ev.now _

/-! Cells of a table: the law's, and the program's. -/
theorem rdT_mid (p s : List S64) (x : S64) : rd_T64 (p ++ x :: s) (p.length : Int) = x := by simp [rd_T64, List.getD]
theorem rdL_mid (p s : List S68) (x : S68) : rd_T68 (p ++ x :: s) (p.length : Int) = x := by simp [rd_T68, List.getD]
abbrev Cl := S64
def conv (c : S68) : Cl := ⟨c.f0, c.f1⟩
theorem szCellS_eq (l : List S68) (hl : l.length ≤ 9223372036854775807) : laws_szCellS.f l 1048576 = some (if l.length ≤ 1048576 then 1048576 - (l.length : Int) else -1) := by
  unfold laws_szCellS.f
  have e : wrap64 (1048576 - (l.length : Int)) = 1048576 - (l.length : Int) := by unfold wrap64; omega
  rw [e]
  by_cases h : l.length ≤ 1048576
  · rw [if_neg (by omega), if_pos h]
  · rw [if_pos (by omega), if_neg h]
theorem toCellS_l0 (l : List S68) (hl : l.length ≤ 1048576) : ∀ (suf pre : List S68), l = pre ++ suf →
    Ev (fun k => laws_toCellS.l0 k l (pre.map conv ++ List.replicate suf.length z64) (pre.length : Int)) (l.map conv) := by
  intro suf
  induction suf with
  | nil =>
    intro pre h
    subst h
    refine ⟨1, fun k hk => ?_⟩
    obtain ⟨k, rfl⟩ : ∃ m, k = m + 1 := ⟨k - 1, by omega⟩
    simp only [laws_toCellS.l0]
    rw [if_neg (nlt_end pre)]
    simp
  | cons c suf ih =>
    intro pre h
    have := ih (pre ++ [c]) (by simp [h])
    subst h
    refine Ev.step (fun k => ?_) this
    simp only [laws_toCellS.l0]
    rw [if_pos (lt_mid pre suf c), if_pos (Int.natCast_nonneg _), rdL_mid]
    simp only [laws_toCell.f, Option.bind_some]
    rw [if_pos (by simp; omega), wrap_snoc (s := suf) (by simp at hl ⊢; omega)]
    congr 1
    simp [List.replicate_succ, conv]
theorem toCellS_ev (l : List S68) (hl : l.length ≤ 1048576) : Ev (fun k => laws_toCellS.f k l) (l.map conv) := by
  have := toCellS_l0 l hl l [] rfl
  refine Ev.congr (fun k => ?_) this
  unfold laws_toCellS.f
  rw [if_pos (by omega), if_pos (by omega)]
  simp
theorem eqCell_eq (a b c d : Int) : laws_eqCell.f a b c d = some (decide (a = c ∧ b = d)) := by
  unfold laws_eqCell.f
  by_cases h : a = c
  · by_cases h2 : b = d
    · simp [h, h2]
    · simp [h, h2]
  · simp [h]
theorem eqCellS_l0 (l : List Cl) (hl : l.length ≤ 1048576) : ∀ (suf pre : List Cl), l = pre ++ suf → Ev (fun k => laws_eqCellS.l0 k l l (pre.length : Int)) true := by
  intro suf
  induction suf with
  | nil =>
    intro pre h
    subst h
    refine ⟨1, fun k hk => ?_⟩
    obtain ⟨k, rfl⟩ : ∃ m, k = m + 1 := ⟨k - 1, by omega⟩
    simp only [laws_eqCellS.l0]
    rw [if_neg (nlt_end pre)]
  | cons c suf ih =>
    intro pre h
    have := ih (pre ++ [c]) (by simp [h])
    subst h
    refine Ev.step (fun k => ?_) this
    simp only [laws_eqCellS.l0]
    rw [if_pos (lt_mid pre suf c), if_pos (Int.natCast_nonneg _), if_pos (lt_mid pre suf c), rdT_mid, eqCell_eq]
    simp only [Option.bind_some, and_self, decide_true, if_true]
    rw [wrap_snoc (s := suf) (by simp at hl ⊢; omega)]
theorem eqCellS_ev (l : List Cl) (hl : l.length ≤ 1048576) : Ev (fun k => laws_eqCellS.f k l l) true := by
  have := eqCellS_l0 l hl l [] rfl
  refine Ev.congr (fun k => ?_) this
  unfold laws_eqCellS.f
  rw [if_pos rfl]
  simp
/-- The place of the first cell with these coordinates, or -1. -/
def cellGo (x y : Int) : List Cl → Int → Int
  | [], _ => -1
  | c :: cs, i => if c.f0 = x ∧ c.f1 = y then i else cellGo x y cs (i + 1)
def cellAt (l : List Cl) (x y : Int) : Int := cellGo x y l 0
theorem spec_CellAt_l0 (l : List Cl) (hl : l.length ≤ 1048576) (x y : Int) : ∀ (suf pre : List Cl), l = pre ++ suf →
    Ev (fun k => spec_CellAt.l0 k x y l (l.length : Int) (pre.length : Int)) (cellGo x y suf pre.length) := by
  intro suf
  induction suf with
  | nil =>
    intro pre h
    subst h
    refine ⟨1, fun k hk => ?_⟩
    obtain ⟨k, rfl⟩ : ∃ m, k = m + 1 := ⟨k - 1, by omega⟩
    simp only [spec_CellAt.l0]
    rw [if_neg (nlt_end pre)]
    rfl
  | cons c suf ih =>
    intro pre h
    have := ih (pre ++ [c]) (by simp [h])
    subst h
    by_cases hc : c.f0 = x ∧ c.f1 = y
    · refine Ev.step (f := fun _ => some ((pre.length : Nat) : Int)) (fun k => ?_) (by rw [cellGo, if_pos hc]; exact Ev.now _)
      simp only [spec_CellAt.l0]
      rw [if_pos (lt_mid pre suf c), if_pos (Int.natCast_nonneg _), if_pos (lt_mid pre suf c), rdT_mid, if_pos hc.1, if_pos hc.2]
    · rw [cellGo, if_neg hc]
      rw [show ((pre ++ [c]).length : Int) = (pre.length : Int) + 1 by simp] at this
      refine Ev.step (fun k => ?_) this
      simp only [spec_CellAt.l0]
      rw [if_pos (lt_mid pre suf c), if_pos (Int.natCast_nonneg _), if_pos (lt_mid pre suf c), rdT_mid, wrap_snoc (x := c) (s := suf) (by simp at hl ⊢; omega)]
      by_cases h1 : c.f0 = x
      · rw [if_pos h1, if_neg (fun h2 => hc ⟨h1, h2⟩)]; simp
      · rw [if_neg h1]; simp
theorem spec_CellAt_ev (l : List Cl) (hl : l.length ≤ 1048576) (x y : Int) : Ev (fun k => spec_CellAt.f k l x y) (cellAt l x y) := spec_CellAt_l0 l hl x y l [] rfl
theorem impl_Index_l0 (l : List Cl) (hl : l.length ≤ 1048576) (x y : Int) : ∀ (suf pre : List Cl), l = pre ++ suf →
    Ev (fun k => impl_Cell.l0 k l (l.length : Int) (pre.length : Int) x y) (cellGo x y suf pre.length) := by
  intro suf
  induction suf with
  | nil =>
    intro pre h
    subst h
    refine ⟨1, fun k hk => ?_⟩
    obtain ⟨k, rfl⟩ : ∃ m, k = m + 1 := ⟨k - 1, by omega⟩
    simp only [impl_Cell.l0]
    rw [if_neg (nlt_end pre)]
    rfl
  | cons c suf ih =>
    intro pre h
    have := ih (pre ++ [c]) (by simp [h])
    subst h
    by_cases hc : c.f0 = x ∧ c.f1 = y
    · refine Ev.step (f := fun _ => some ((pre.length : Nat) : Int)) (fun k => ?_) (by rw [cellGo, if_pos hc]; exact Ev.now _)
      simp only [impl_Cell.l0]
      rw [if_pos (lt_mid pre suf c), if_pos (Int.natCast_nonneg _), if_pos (lt_mid pre suf c), rdT_mid, hc.1, hc.2]
      simp
    · rw [cellGo, if_neg hc]
      rw [show ((pre ++ [c]).length : Int) = (pre.length : Int) + 1 by simp] at this
      refine Ev.step (fun k => ?_) this
      simp only [impl_Cell.l0]
      rw [if_pos (lt_mid pre suf c), if_pos (Int.natCast_nonneg _), if_pos (lt_mid pre suf c), rdT_mid, wrap_snoc (x := c) (s := suf) (by simp at hl ⊢; omega)]
      rw [if_neg (by simp; exact fun h1 h2 => hc ⟨h1.symm, h2.symm⟩)]
      simp
theorem impl_CellAt_ev (l : List Cl) (hl : l.length ≤ 1048576) (x y : Int) : Ev (fun k => impl_CellAt.f k l x y) (cellAt l x y) := by
  refine Ev.bind (impl_Index_l0 l hl x y l [] rfl) ?_
  exact Ev.now _

theorem cellGo_bd (x y : Int) : ∀ (l : List Cl) (i : Int), cellGo x y l i = -1 ∨ (i ≤ cellGo x y l i ∧ cellGo x y l i < i + l.length)
  | [], i => .inl rfl
  | c :: cs, i => by
    rw [cellGo]
    split
    · right; simp; omega
    · rcases cellGo_bd x y cs (i + 1) with h | ⟨h1, h2⟩
      · exact .inl h
      · right; simp; omega
theorem cellAt_bd (l : List Cl) (x y : Int) : -1 ≤ cellAt l x y ∧ cellAt l x y < l.length := by
  unfold cellAt
  rcases cellGo_bd x y l 0 with h | ⟨h1, h2⟩ <;> omega
/-- The neighbours of a cell: right, left, up, down; -1 where there is none. -/
def nbrs (l : List Cl) (i : Int) : List Int :=
  [cellAt l ((rd_T64 l i).f0 + 1) (rd_T64 l i).f1, cellAt l ((rd_T64 l i).f0 + -1) (rd_T64 l i).f1, cellAt l (rd_T64 l i).f0 ((rd_T64 l i).f1 + 1), cellAt l (rd_T64 l i).f0 ((rd_T64 l i).f1 + -1)]
theorem nbrs_lt (l : List Cl) (i : Int) : ∀ k ∈ nbrs l i, k < (l.length : Int) := by
  intro k hk
  simp only [nbrs, List.mem_cons, List.not_mem_nil, or_false] at hk
  rcases hk with rfl | rfl | rfl | rfl <;> exact (cellAt_bd ..).2
/-- The cells lie where tables lie. -/
def Near0 (l : List Cl) : Prop := ∀ c ∈ l, 0 ≤ c.f0 ∧ c.f0 ≤ 9 ∧ 0 ≤ c.f1 ∧ c.f1 ≤ 9
theorem near_rd {l : List Cl} (hv : Near0 l) {i : Int} (h0 : 0 ≤ i) (h1 : i < l.length) : 0 ≤ (rd_T64 l i).f0 ∧ (rd_T64 l i).f0 ≤ 9 ∧ 0 ≤ (rd_T64 l i).f1 ∧ (rd_T64 l i).f1 ≤ 9 := by
  have h : i.toNat < l.length := by omega
  have e : rd_T64 l i = l[i.toNat] := by simp [rd_T64, List.getD, h]
  rw [e]
  exact hv _ (List.getElem_mem h)
theorem spec_next {l : List Cl} (hl : l.length ≤ 1048576) (hv : Near0 l) {i : Int} (h0 : 0 ≤ i) (h1 : i < l.length) (dx dy : Int) (hx : -1 ≤ dx ∧ dx ≤ 1) (hy : -1 ≤ dy ∧ dy ≤ 1) :
    Ev (fun k => spec_l15Next.f k l i dx dy) (cellAt l ((rd_T64 l i).f0 + dx) ((rd_T64 l i).f1 + dy)) := by
  have hr := near_rd hv h0 h1
  simp only [spec_l15Next.f, if_pos h0, if_pos h1, pw_wrap (a := (rd_T64 l i).f0 + dx) (by omega) (by omega), pw_wrap (a := (rd_T64 l i).f1 + dy) (by omega) (by omega)]
  refine Ev.bind (spec_CellAt_ev l hl _ _) ?_
  exact Ev.now _
theorem spec_near_l0 (ys : List Int) (hy : ys.length ≤ 1000) : ∀ (suf pre acc : List Int), ys = pre ++ suf → acc.length + suf.length ≤ 1000 →
    Ev (fun k => spec_l15Near.l0 k acc ys (ys.length : Int) (pre.length : Int)) (acc ++ suf.filter (fun k => decide (0 ≤ k))) := by
  intro suf
  induction suf with
  | nil =>
    intro pre acc h ha
    subst h
    refine ev_up ?_
    simp only [spec_l15Near.l0, if_neg (nlt_end pre)]
    simpa using Ev.now acc
  | cons c suf ih =>
    intro pre acc h ha
    have hi := fun acc' h' => ih (pre ++ [c]) acc' (by simp [h]) h'
    subst h
    refine ev_up ?_
    simp only [spec_l15Near.l0, if_pos (lt_mid pre suf c), if_pos (Int.natCast_nonneg pre.length), rd_mid, wrap_snoc (x := c) (s := suf) (p := pre) (by simp at hy ⊢; omega)]
    by_cases hc : c ≥ 0
    · simp only [if_pos hc, if_pos (show acc.length < 17592186044416 by omega)]
      have := hi (acc ++ [c]) (by simp at ha ⊢; omega)
      rw [List.append_assoc] at this
      simpa [hc] using this
    · simp only [if_neg hc]
      have := hi acc (by simp at ha ⊢; omega)
      simpa [hc] using this
theorem spec_near {l : List Cl} (hl : l.length ≤ 1048576) (hv : Near0 l) {i : Int} (h0 : 0 ≤ i) (h1 : i < l.length) :
    Ev (fun k => spec_l15Near.f k l i) ((nbrs l i).filter (fun k => decide (0 ≤ k))) := by
  unfold spec_l15Near.f
  refine Ev.bind (spec_next hl hv h0 h1 1 0 (by omega) (by omega)) ?_
  refine Ev.bind (spec_next hl hv h0 h1 (-1) 0 (by omega) (by omega)) ?_
  refine Ev.bind (spec_next hl hv h0 h1 0 1 (by omega) (by omega)) ?_
  refine Ev.bind (spec_next hl hv h0 h1 0 (-1) (by omega) (by omega)) ?_
  simp only [Option.bind_some]
  have := spec_near_l0 (nbrs l i) (by simp [nbrs]) (nbrs l i) [] [] rfl (by simp [nbrs])
  simp only [nbrs, List.nil_append, List.length_nil, Int.add_zero, Int.ofNat_zero] at this ⊢
  exact this
theorem pushAll_filter : ∀ (ks q : List Int), pushAll q (ks.filter (fun k => decide (0 ≤ k))) = pushAll q ks
  | [], q => rfl
  | k :: ks, q => by
    by_cases hk : 0 ≤ k
    · simp only [List.filter_cons, hk, decide_true, if_true, pushAll, List.foldl_cons]
      exact pushAll_filter ks (push q k)
    · have : push q k = q := by unfold push; rw [if_neg (fun h => hk h.1)]
      simp only [List.filter_cons, hk, decide_false, Bool.false_eq_true, if_false, pushAll, List.foldl_cons, this]
      exact pushAll_filter ks q
theorem spec_table_l2 (l : List Cl) (hl : l.length ≤ 6) (x6 : Int) (hx : 0 ≤ x6 ∧ x6 ≤ 1000) (ys : List Int) (hy : ys.length ≤ 1000) (r : Bool) : ∀ (suf pre q : List Int), ys = pre ++ suf → Few l.length q → (∀ k ∈ suf, 0 ≤ k ∧ k < (l.length : Int)) →
    Ev (fun k => spec_TableOk.l1 k l (pushAll q suf) (x6 + 1)) r → Ev (fun k => spec_TableOk.l2 k l q x6 ys (ys.length : Int) (pre.length : Int)) r := by
  intro suf
  induction suf with
  | nil =>
    intro pre q h hq hk hr
    subst h
    refine ev_up ?_
    simp only [spec_TableOk.l2, if_neg (nlt_end pre), pw_wrap (a := x6 + 1) (by omega) (by omega)]
    exact hr
  | cons c suf ih =>
    intro pre q h hq hk hr
    have hc := hk c (by simp)
    have hf := few_push hq hc.2
    have hi := ih (pre ++ [c]) (push q c) (by simp [h]) hf (fun k h' => hk k (by simp [h'])) hr
    subst h
    have hql := few_len hq
    refine ev_up ?_
    simp only [spec_TableOk.l2, if_pos (lt_mid pre suf c), if_pos (Int.natCast_nonneg pre.length), rd_mid, wrap_snoc (x := c) (s := suf) (p := pre) (by simp at hy ⊢; omega)]
    refine Ev.bind (spec_has q (by omega) c) ?_
    by_cases hm : c ∈ q
    · simp only [decide_eq_true hm, if_true]
      unfold push at hi
      rw [if_neg (fun h => h.2 hm)] at hi
      exact hi
    · simp only [decide_eq_false hm, Bool.false_eq_true, if_false, if_pos (show q.length < 17592186044416 by omega)]
      unfold push at hi
      rw [if_pos ⟨hc.1, hm⟩] at hi
      exact hi
theorem impl_table_l2 (l : List Cl) (hl : l.length ≤ 6) (x6 : Int) (hx : 0 ≤ x6 ∧ x6 ≤ 1000) (ys : List Int) (hy : ys.length ≤ 1000) (r : Bool) : ∀ (suf pre q : List Int), ys = pre ++ suf → Few l.length q → (∀ k ∈ suf, k < (l.length : Int)) →
    Ev (fun k => impl_TableOk.l1 k l (pushAll q suf) (x6 + 1)) r → Ev (fun k => impl_TableOk.l2 k l q x6 ys (ys.length : Int) (pre.length : Int)) r := by
  intro suf
  induction suf with
  | nil =>
    intro pre q h hq hk hr
    subst h
    refine ev_up ?_
    simp only [impl_TableOk.l2, if_neg (nlt_end pre), pw_wrap (a := x6 + 1) (by omega) (by omega)]
    exact hr
  | cons c suf ih =>
    intro pre q h hq hk hr
    have hc := hk c (by simp)
    have hf := few_push hq hc
    have hi := ih (pre ++ [c]) (push q c) (by simp [h]) hf (fun k h' => hk k (by simp [h'])) hr
    subst h
    have hql := few_len hq
    refine ev_up ?_
    simp only [impl_TableOk.l2, if_pos (lt_mid pre suf c), if_pos (Int.natCast_nonneg pre.length), rd_mid, wrap_snoc (x := c) (s := suf) (p := pre) (by simp at hy ⊢; omega)]
    by_cases h0 : c ≥ 0
    · simp only [if_pos h0]
      refine Ev.bind (impl_contains q (by omega) c) ?_
      by_cases hm : c ∈ q
      · simp only [decide_eq_true hm, if_true]
        unfold push at hi
        rw [if_neg (fun h => h.2 hm)] at hi
        exact hi
      · simp only [decide_eq_false hm, Bool.false_eq_true, if_false, if_pos (show q.length < 17592186044416 by omega)]
        unfold push at hi
        rw [if_pos ⟨h0, hm⟩] at hi
        exact hi
    · simp only [if_neg h0]
      unfold push at hi
      rw [if_neg (fun h => h0 h.1)] at hi
      exact hi
/-- Everything is met from the first cell. -/
def whole (l : List Cl) (f : Nat) (q : List Int) (i : Nat) : Bool := ((bfs (nbrs l) f q i).length : Int) == (l.length : Int)
theorem rd_get (q : List Int) (i : Nat) (h : i < q.length) : rd q (i : Int) = q[i] := by simp [rd, List.getD, h]
theorem spec_table_l1 (l : List Cl) (hl : l.length ≤ 6) (hv : Near0 l) : ∀ (f : Nat) (q : List Int) (i : Nat), Few l.length q → i ≤ q.length → f + i = l.length + 1 →
    Ev (fun k => spec_TableOk.l1 k l q (i : Int)) (whole l f q i) := by
  intro f
  induction f with
  | zero =>
    intro q i hq hi hf
    have := few_len hq
    omega
  | succ f ih =>
    intro q i hq hi hf
    have hql := few_len hq
    refine ev_up ?_
    by_cases h : i < q.length
    · have hx := hq.2 _ (List.getElem_mem h)
      simp only [spec_TableOk.l1, if_pos (show ((i : Nat) : Int) < (q.length : Int) by omega), if_pos (Int.natCast_nonneg i), rd_get q i h]
      refine Ev.bind (spec_near (by omega) hv hx.1 hx.2) ?_
      have hlt : ∀ k ∈ (nbrs l q[i]).filter (fun k => decide (0 ≤ k)), 0 ≤ k ∧ k < (l.length : Int) := fun k hk => by
        have := List.mem_filter.1 hk
        exact ⟨by simpa using this.2, nbrs_lt l _ k this.1⟩
      have hp := few_pushAll _ q hq (fun k hk => (hlt k hk).2)
      have := ih _ (i + 1) hp.1 (by have := hp.2; omega) (by omega)
      refine spec_table_l2 l hl i (by omega) _ (Nat.le_trans (List.length_filter_le _ _) (by simp [nbrs])) _ _ [] q rfl hq hlt ?_
      rw [whole, bfs, dif_pos h, ← pushAll_filter (nbrs l q[i]) q]
      exact this
    · simp only [spec_TableOk.l1, if_neg (show ¬ ((i : Nat) : Int) < (q.length : Int) by omega)]
      rw [whole, bfs_done _ _ _ _ h]
      exact Ev.now _
theorem impl_table_l1 (l : List Cl) (hl : l.length ≤ 6) (hv : Near0 l) : ∀ (f : Nat) (q : List Int) (i : Nat), Few l.length q → i ≤ q.length → f + i = l.length + 1 →
    Ev (fun k => impl_TableOk.l1 k l q (i : Int)) (whole l f q i) := by
  intro f
  induction f with
  | zero =>
    intro q i hq hi hf
    have := few_len hq
    omega
  | succ f ih =>
    intro q i hq hi hf
    have hql := few_len hq
    refine ev_up ?_
    by_cases h : i < q.length
    · have hx := hq.2 _ (List.getElem_mem h)
      have hr := near_rd hv hx.1 hx.2
      generalize hc : rd_T64 l q[i] = c at hr
      simp only [impl_TableOk.l1, if_pos (show ((i : Nat) : Int) < (q.length : Int) by omega), if_pos (Int.natCast_nonneg i), rd_get q i h, if_pos hx.1, if_pos hx.2, hc,
        pw_wrap (a := c.f0 + 1) (by omega) (by omega), pw_wrap (a := c.f0 - 1) (by omega) (by omega), pw_wrap (a := c.f1 + 1) (by omega) (by omega), pw_wrap (a := c.f1 - 1) (by omega) (by omega)]
      refine Ev.bind (impl_CellAt_ev l (by omega) _ _) ?_
      refine Ev.bind (impl_CellAt_ev l (by omega) _ _) ?_
      refine Ev.bind (impl_CellAt_ev l (by omega) _ _) ?_
      refine Ev.bind (impl_CellAt_ev l (by omega) _ _) ?_
      simp only [Option.bind_some]
      have hp := few_pushAll _ q hq (nbrs_lt l q[i])
      have := ih _ (i + 1) hp.1 (by have := hp.2; omega) (by omega)
      have := impl_table_l2 l hl i (by omega) (nbrs l q[i]) (by simp [nbrs]) _ _ [] q rfl hq (nbrs_lt l q[i]) this
      rw [whole, bfs, dif_pos h]
      unfold nbrs at this ⊢
      rw [hc] at this ⊢
      exact this
    · simp only [impl_TableOk.l1, if_neg (show ¬ ((i : Nat) : Int) < (q.length : Int) by omega)]
      rw [whole, bfs_done _ _ _ _ h]
      exact Ev.now _
/-- The cells lie in range, in ascending order of row and then column. -/
def vGo : Option Cl → List Cl → Bool
  | _, [] => true
  | none, c :: cs => decide (0 ≤ c.f0 ∧ c.f0 ≤ 9) && decide (0 ≤ c.f1 ∧ c.f1 ≤ 9) && vGo (some c) cs
  | some p, c :: cs => decide (0 ≤ c.f0 ∧ c.f0 ≤ 9) && decide (0 ≤ c.f1 ∧ c.f1 ≤ 9) && !decide (c.f1 < p.f1 ∨ c.f1 = p.f1 ∧ c.f0 ≤ p.f0) && vGo (some c) cs
theorem vGo_near : ∀ (p : Option Cl) (l : List Cl), vGo p l = true → Near0 l
  | _, [], _ => fun c hc => by simp at hc
  | none, c :: cs, h => by
    simp only [vGo, Bool.and_eq_true, decide_eq_true_eq] at h
    intro d hd
    rcases List.mem_cons.1 hd with rfl | hd
    · exact ⟨h.1.1.1, h.1.1.2, h.1.2.1, h.1.2.2⟩
    · exact vGo_near (some c) cs h.2 d hd
  | some p, c :: cs, h => by
    simp only [vGo, Bool.and_eq_true, decide_eq_true_eq] at h
    intro d hd
    rcases List.mem_cons.1 hd with rfl | hd
    · exact ⟨h.1.1.1.1, h.1.1.1.2, h.1.1.2.1, h.1.1.2.2⟩
    · exact vGo_near (some c) cs h.2 d hd
def tableB (l : List Cl) : Bool := decide (1 ≤ l.length ∧ l.length ≤ 6) && vGo none l && whole l (l.length + 1) [0] 0
theorem tableB_side {l : List Cl} (h : tableB l = true) : (1 ≤ l.length ∧ l.length ≤ 6) ∧ Near0 l ∧ vGo none l = true ∧ whole l (l.length + 1) [0] 0 = true := by
  simp only [tableB, Bool.and_eq_true, decide_eq_true_eq] at h
  exact ⟨h.1.1, vGo_near _ _ h.1.2, h.1.2, h.2⟩

theorem few_zero {n : Nat} (h : 1 ≤ n) : Few n [0] := ⟨by simp, fun x hx => by simp at hx; subst hx; omega⟩
theorem near_snoc {pre : List Cl} {c : Cl} (h : Near0 pre) (hc : 0 ≤ c.f0 ∧ c.f0 ≤ 9 ∧ 0 ≤ c.f1 ∧ c.f1 ≤ 9) : Near0 (pre ++ [c]) := by
  intro d hd
  rcases List.mem_append.1 hd with hd | hd
  · exact h d hd
  · simp at hd; subst hd; exact hc
theorem spec_table_l0 (l : List Cl) (hn : 1 ≤ l.length ∧ l.length ≤ 6) : ∀ (suf pre : List Cl), l = pre ++ suf → Near0 pre →
    Ev (fun k => spec_TableOk.l0 k l l (l.length : Int) (pre.length : Int)) (vGo pre.getLast? suf && whole l (l.length + 1) [0] 0) := by
  intro suf
  induction suf with
  | nil =>
    intro pre h hp
    refine ev_up ?_
    have hlen : ¬ ((pre.length : Nat) : Int) < (l.length : Int) := by rw [h]; simp
    simp only [spec_TableOk.l0, if_neg hlen]
    have hv : Near0 l := by rw [h]; simpa using hp
    have := spec_table_l1 l hn.2 hv (l.length + 1) [0] 0 (few_zero hn.1) (by simp) rfl
    cases hgl : pre.getLast? <;> simpa [vGo] using this
  | cons c suf ih =>
    intro pre h hp
    have hlt : ((pre.length : Nat) : Int) < (l.length : Int) := by rw [h]; exact lt_mid pre suf c
    have hrd : rd_T64 l (pre.length : Int) = c := by rw [h]; exact rdT_mid pre suf c
    have hw : wrap64 ((pre.length : Int) + 1) = ((pre ++ [c]).length : Int) := wrap_snoc (s := suf) (by rw [← h]; omega)
    refine ev_up ?_
    simp only [spec_TableOk.l0, if_pos hlt, if_pos (Int.natCast_nonneg pre.length), hrd, l01In_eq, Option.bind_some, hw]
    by_cases h1 : 0 ≤ c.f0 ∧ c.f0 ≤ 9
    · by_cases h2 : 0 ≤ c.f1 ∧ c.f1 ≤ 9
      · have hi := ih (pre ++ [c]) (by simp [h]) (near_snoc hp ⟨h1.1, h1.2, h2⟩)
        rw [List.getLast?_concat] at hi
        rcases nil_or_snoc pre with rfl | ⟨pre', p, rfl⟩
        · simp only [decide_eq_true h1, decide_eq_true h2, if_true, if_neg (show ¬ (([] : List Cl).length : Int) > 0 by simp)]
          simpa [vGo, h1, h2] using hi
        · have hlen : ((pre' ++ [p]).length : Int) = (pre'.length : Int) + 1 := by simp
          rw [hlen] at hlt
          have hw2 : wrap64 (((pre' ++ [p]).length : Int) - 1) = (pre'.length : Int) := by rw [hlen]; unfold wrap64; omega
          have hrp : rd_T64 l (pre'.length : Int) = p := by rw [h, List.append_assoc]; exact rdT_mid pre' _ p
          simp only [decide_eq_true h1, decide_eq_true h2, if_true, if_pos (show ((pre' ++ [p]).length : Int) > 0 by rw [hlen]; omega), hw2, if_pos (Int.natCast_nonneg pre'.length), if_pos (show ((pre'.length : Nat) : Int) < (l.length : Int) by omega), hrp]
          rw [List.getLast?_concat]
          by_cases h3 : c.f1 < p.f1
          · simp only [if_pos h3]
            simpa [vGo, h3] using Ev.now false
          · by_cases h4 : c.f1 = p.f1
            · by_cases h5 : c.f0 ≤ p.f0
              · simp only [if_neg h3, if_pos h4, if_pos h5]
                simpa [vGo, h4, h5] using Ev.now false
              · simp only [if_neg h3, if_pos h4, if_neg h5]
                have e : (decide (c.f1 < p.f1 ∨ c.f1 = p.f1 ∧ c.f0 ≤ p.f0)) = false := decide_eq_false (by omega)
                simp only [vGo, decide_eq_true h1, decide_eq_true h2, e, Bool.not_false, Bool.true_and]
                exact hi
            · simp only [if_neg h3, if_neg h4]
              have e : (decide (c.f1 < p.f1 ∨ c.f1 = p.f1 ∧ c.f0 ≤ p.f0)) = false := decide_eq_false (by omega)
              simp only [vGo, decide_eq_true h1, decide_eq_true h2, e, Bool.not_false, Bool.true_and]
              exact hi
      · simp only [decide_eq_true h1, decide_eq_false h2, if_true, Bool.false_eq_true, if_false]
        have e : vGo pre.getLast? (c :: suf) = false := by cases pre.getLast? <;> simp only [vGo, decide_eq_false h2, Bool.and_false, Bool.false_and]
        rw [e]
        exact Ev.now _
    · simp only [decide_eq_false h1, Bool.false_eq_true, if_false]
      have e : vGo pre.getLast? (c :: suf) = false := by cases pre.getLast? <;> simp only [vGo, decide_eq_false h1, Bool.false_and]
      rw [e]
      exact Ev.now _
theorem impl_table_l0 (l : List Cl) (hn : 1 ≤ l.length ∧ l.length ≤ 6) : ∀ (suf pre : List Cl), l = pre ++ suf → Near0 pre →
    Ev (fun k => impl_TableOk.l0 k l l (l.length : Int) (pre.length : Int)) (vGo pre.getLast? suf && whole l (l.length + 1) [0] 0) := by
  intro suf
  induction suf with
  | nil =>
    intro pre h hp
    refine ev_up ?_
    have hlen : ¬ ((pre.length : Nat) : Int) < (l.length : Int) := by rw [h]; simp
    simp only [impl_TableOk.l0, if_neg hlen]
    have hv : Near0 l := by rw [h]; simpa using hp
    have := impl_table_l1 l hn.2 hv (l.length + 1) [0] 0 (few_zero hn.1) (by simp) rfl
    cases hgl : pre.getLast? <;> simpa [vGo] using this
  | cons c suf ih =>
    intro pre h hp
    have hlt : ((pre.length : Nat) : Int) < (l.length : Int) := by rw [h]; exact lt_mid pre suf c
    have hrd : rd_T64 l (pre.length : Int) = c := by rw [h]; exact rdT_mid pre suf c
    have hw : wrap64 ((pre.length : Int) + 1) = ((pre ++ [c]).length : Int) := wrap_snoc (s := suf) (by rw [← h]; omega)
    have hbad : ∀ r : Bool, r = false → Ev (fun k => impl_TableOk.j2 k l (pre.length : Int) l (l.length : Int) (pre.length : Int) true c.f0 c.f1) r := by
      rintro r rfl
      refine ev_up ?_
      simp only [impl_TableOk.j2, if_true]
      exact Ev.now _
    refine ev_up ?_
    simp only [impl_TableOk.l0, if_pos hlt, if_pos (Int.natCast_nonneg pre.length), hrd]
    by_cases h1 : 0 ≤ c.f0 ∧ c.f0 ≤ 9
    · by_cases h2 : 0 ≤ c.f1 ∧ c.f1 ≤ 9
      · have hi := ih (pre ++ [c]) (by simp [h]) (near_snoc hp ⟨h1.1, h1.2, h2⟩)
        rw [List.getLast?_concat] at hi
        simp only [if_neg (show ¬ c.f0 < 0 by omega), if_neg (show ¬ c.f0 > 9 by omega), if_neg (show ¬ c.f1 < 0 by omega), decide_eq_false (show ¬ c.f1 > 9 by omega)]
        refine ev_up ?_
        simp only [impl_TableOk.j2, Bool.false_eq_true, if_false, hw]
        rcases nil_or_snoc pre with rfl | ⟨pre', p, rfl⟩
        · simp only [if_neg (show ¬ (([] : List Cl).length : Int) > 0 by simp)]
          simpa [vGo, h1, h2] using hi
        · have hlen : ((pre' ++ [p]).length : Int) = (pre'.length : Int) + 1 := by simp
          rw [hlen] at hlt
          have hw2 : wrap64 (((pre' ++ [p]).length : Int) - 1) = (pre'.length : Int) := by rw [hlen]; unfold wrap64; omega
          have hrp : rd_T64 l (pre'.length : Int) = p := by rw [h, List.append_assoc]; exact rdT_mid pre' _ p
          simp only [if_pos (show ((pre' ++ [p]).length : Int) > 0 by rw [hlen]; omega), hw2, if_pos (Int.natCast_nonneg pre'.length), if_pos (show ((pre'.length : Nat) : Int) < (l.length : Int) by omega), hrp]
          rw [List.getLast?_concat]
          by_cases h3 : c.f1 < p.f1
          · simp only [if_pos h3]
            simpa [vGo, h3] using Ev.now false
          · by_cases h4 : c.f1 = p.f1
            · by_cases h5 : c.f0 ≤ p.f0
              · simp only [if_neg h3, if_pos h4, if_pos h5]
                simpa [vGo, h4, h5] using Ev.now false
              · simp only [if_neg h3, if_pos h4, if_neg h5]
                have e : (decide (c.f1 < p.f1 ∨ c.f1 = p.f1 ∧ c.f0 ≤ p.f0)) = false := decide_eq_false (by omega)
                simp only [vGo, decide_eq_true h1, decide_eq_true h2, e, Bool.not_false, Bool.true_and]
                exact hi
            · simp only [if_neg h3, if_neg h4]
              have e : (decide (c.f1 < p.f1 ∨ c.f1 = p.f1 ∧ c.f0 ≤ p.f0)) = false := decide_eq_false (by omega)
              simp only [vGo, decide_eq_true h1, decide_eq_true h2, e, Bool.not_false, Bool.true_and]
              exact hi
      · have e : vGo pre.getLast? (c :: suf) = false := by cases pre.getLast? <;> simp only [vGo, decide_eq_false h2, Bool.and_false, Bool.false_and]
        simp only [if_neg (show ¬ c.f0 < 0 by omega), if_neg (show ¬ c.f0 > 9 by omega)]
        by_cases h3 : c.f1 < 0
        · simp only [if_pos h3]
          exact hbad _ (by rw [e]; rfl)
        · simp only [if_neg h3, decide_eq_true (show c.f1 > 9 by omega)]
          exact hbad _ (by rw [e]; rfl)
    · have e : vGo pre.getLast? (c :: suf) = false := by cases pre.getLast? <;> simp only [vGo, decide_eq_false h1, Bool.false_and]
      by_cases h3 : c.f0 < 0
      · simp only [if_pos h3]
        exact hbad _ (by rw [e]; rfl)
      · simp only [if_neg h3, if_pos (show c.f0 > 9 by omega)]
        exact hbad _ (by rw [e]; rfl)
theorem spec_table (l : List Cl) : Ev (fun k => spec_TableOk.f k l) (tableB l) := by
  unfold spec_TableOk.f tableB
  simp only [l01In_eq, Option.bind_some]
  by_cases h : 1 ≤ l.length ∧ l.length ≤ 6
  · simp only [decide_eq_true h, decide_eq_true (show 1 ≤ (l.length : Int) ∧ (l.length : Int) ≤ 6 by omega), if_true, Bool.true_and]
    exact spec_table_l0 l h l [] rfl (fun c hc => by simp at hc)
  · simp only [decide_eq_false h, decide_eq_false (show ¬ (1 ≤ (l.length : Int) ∧ (l.length : Int) ≤ 6) by omega), Bool.false_eq_true, if_false, Bool.false_and]
    exact Ev.now _
theorem impl_table (l : List Cl) : Ev (fun k => impl_TableOk.f k l) (tableB l) := by
  unfold impl_TableOk.f tableB
  by_cases h1 : (l.length : Int) < 1
  · simp only [if_pos h1, decide_eq_false (show ¬ (1 ≤ l.length ∧ l.length ≤ 6) by omega), Bool.false_and]
    refine ev_up ?_
    simp only [impl_TableOk.j0, if_true]
    exact Ev.now _
  · simp only [if_neg h1]
    refine ev_up ?_
    by_cases h2 : l.length ≤ 6
    · simp only [impl_TableOk.j0, decide_eq_false (show ¬ (l.length : Int) > 6 by omega), Bool.false_eq_true, if_false, decide_eq_true (show 1 ≤ l.length ∧ l.length ≤ 6 by omega), Bool.true_and]
      exact impl_table_l0 l (by omega) l [] rfl (fun c hc => by simp at hc)
    · simp only [impl_TableOk.j0, decide_eq_true (show (l.length : Int) > 6 by omega), if_true, decide_eq_false (show ¬ (1 ≤ l.length ∧ l.length ≤ 6) by omega), Bool.false_and]
      exact Ev.now _

def dirX (k : Int) : Int := if k % 2 = 1 then -1 else 1
def dirY (k : Int) : Int := if k / 2 % 2 = 1 then -1 else 1
/-- The square to the right of a square of the unfolded table, and the one above. -/
def gR (l : List Cl) (x : Int) : Int := let j := cellAt l ((rd_T64 l (x / 4)).f0 + dirX (x % 4)) (rd_T64 l (x / 4)).f1
  if j < 0 then 4 * (x / 4) + x % 4 + dirX (x % 4) else 4 * j + x % 4
def gU (l : List Cl) (x : Int) : Int := let j := cellAt l (rd_T64 l (x / 4)).f0 ((rd_T64 l (x / 4)).f1 + dirY (x % 4))
  if j < 0 then 4 * (x / 4) + x % 4 + dirY (x % 4) * 2 else 4 * j + x % 4
/-- The values of g at d places from x on. -/
def vals (g : Int → Int) : Nat → Int → List Int
  | 0, _ => []
  | d + 1, x => g x :: vals g d (x + 1)
theorem vals_len (g : Int → Int) : ∀ (d : Nat) (x : Int), (vals g d x).length = d
  | 0, _ => rfl
  | d + 1, x => by simp [vals, vals_len g d]
theorem vals_add (g : Int → Int) : ∀ (a b : Nat) (x : Int), vals g (a + b) x = vals g a x ++ vals g b (x + a)
  | 0, b, x => by simp [vals]
  | a + 1, b, x => by
    rw [Nat.add_right_comm, vals, vals, vals_add g a b (x + 1)]
    simp only [List.cons_append]
    rw [show x + 1 + (a : Int) = x + ((a + 1 : Nat) : Int) by push_cast; omega]
theorem spec_next_bd {l : List Cl} (hl : l.length ≤ 6) (x y : Int) : -1 ≤ cellAt l x y ∧ cellAt l x y ≤ 5 := by have := cellAt_bd l x y; omega
theorem spec_move {l : List Cl} (hl : l.length ≤ 6) (hv : Near0 l) {x : Int} (h0 : 0 ≤ x) (h1 : x < 4 * l.length) :
    Ev (fun k => spec_l15Move.f k l x false) (gR l x) ∧ Ev (fun k => spec_l15Move.f k l x true) (gU l x) := by
  have hi0 : 0 ≤ x / 4 := by omega
  have hi1 : x / 4 < l.length := by omega
  have e1 : wrap64 (Int.tdiv x 4) = x / 4 := by rw [Int.tdiv_eq_ediv_of_nonneg h0]; exact pw_wrap (by omega) (by omega)
  have e2 : Int.tmod x 4 = x % 4 := Int.tmod_eq_emod_of_nonneg h0
  have hk0 : 0 ≤ x % 4 := by omega
  have w4 : wrap64 (4 * (x / 4)) = 4 * (x / 4) := pw_wrap (by omega) (by omega)
  have wk : wrap64 (4 * (x / 4) + x % 4) = 4 * (x / 4) + x % 4 := pw_wrap (by omega) (by omega)
  have wj : ∀ a b : Int, wrap64 (4 * cellAt l a b) = 4 * cellAt l a b := fun a b => by have := spec_next_bd hl a b; exact pw_wrap (by omega) (by omega)
  have wjk : ∀ a b : Int, wrap64 (4 * cellAt l a b + x % 4) = 4 * cellAt l a b + x % 4 := fun a b => by have := spec_next_bd hl a b; exact pw_wrap (by omega) (by omega)
  constructor
  · simp only [spec_l15Move.f, Bool.false_eq_true, if_false, e1, e2]
    have hj : ∀ d : Int, (d = 1 ∨ d = -1) → d = dirX (x % 4) → Ev (fun k => spec_l15Move.j1 k l false (x / 4) (x % 4) d 1) (gR l x) := by
      intro d hd hdx
      refine ev_up ?_
      simp only [spec_l15Move.j1, Bool.false_eq_true, if_false]
      refine Ev.bind (spec_next (by omega) hv hi0 hi1 d 0 (by omega) (by omega)) ?_
      have wd : wrap64 (d * 1) = d := by rw [Int.mul_one]; exact pw_wrap (by omega) (by omega)
      simp only [w4, wk, wj, wjk, wd, Int.add_zero, pw_wrap (a := 4 * (x / 4) + x % 4 + d) (by omega) (by omega)]
      rw [gR, ← hdx]
      by_cases hc : cellAt l ((rd_T64 l (x / 4)).f0 + d) (rd_T64 l (x / 4)).f1 < 0
      · simp only [if_pos hc]; exact Ev.now _
      · simp only [if_neg hc]; exact Ev.now _
    refine ev_up ?_
    simp only [spec_l15Move.j0, if_neg (show ¬ (1 : Int) = 0 by omega), Int.tdiv_one, pw_wrap (a := x % 4) (by omega) (by omega), Int.tmod_eq_emod_of_nonneg hk0]
    by_cases hp : x % 4 % 2 = 1
    · simp only [if_pos hp]; exact hj (-1) (by omega) (by rw [dirX, if_pos hp])
    · simp only [if_neg hp]; exact hj 1 (by omega) (by rw [dirX, if_neg hp])
  · simp only [spec_l15Move.f, if_true, e1, e2]
    have hj : ∀ d : Int, (d = 1 ∨ d = -1) → d = dirY (x % 4) → Ev (fun k => spec_l15Move.j1 k l true (x / 4) (x % 4) d 2) (gU l x) := by
      intro d hd hdx
      refine ev_up ?_
      simp only [spec_l15Move.j1, if_true]
      refine Ev.bind (spec_next (by omega) hv hi0 hi1 d 0 (by omega) (by omega)) ?_
      refine Ev.bind (spec_next (by omega) hv hi0 hi1 0 d (by omega) (by omega)) ?_
      have wd : wrap64 (d * 2) = d * 2 := pw_wrap (by omega) (by omega)
      simp only [w4, wk, wj, wjk, wd, Int.add_zero, pw_wrap (a := 4 * (x / 4) + x % 4 + d * 2) (by omega) (by omega)]
      rw [gU, ← hdx]
      by_cases hc : cellAt l (rd_T64 l (x / 4)).f0 ((rd_T64 l (x / 4)).f1 + d) < 0
      · simp only [if_pos hc]; exact Ev.now _
      · simp only [if_neg hc]; exact Ev.now _
    have e3 : Int.tdiv (x % 4) 2 = x % 4 / 2 := Int.tdiv_eq_ediv_of_nonneg hk0
    refine ev_up ?_
    simp only [spec_l15Move.j0, if_neg (show ¬ (2 : Int) = 0 by omega), e3, pw_wrap (a := x % 4 / 2) (by omega) (by omega), Int.tmod_eq_emod_of_nonneg (show 0 ≤ x % 4 / 2 by omega)]
    by_cases hp : x % 4 / 2 % 2 = 1
    · simp only [if_pos hp]; exact hj (-1) (by omega) (by rw [dirY, if_pos hp])
    · simp only [if_neg hp]; exact hj 1 (by omega) (by rw [dirY, if_neg hp])
theorem spec_unfold_l0 {l : List Cl} (hl : l.length ≤ 6) (hv : Near0 l) : ∀ (d : Nat) (x : Int) (r u : List Int), 0 ≤ x → x + d = 4 * l.length → r.length + d ≤ 1000 → u.length + d ≤ 1000 →
    Ev (fun k => spec_l15Unfold.l0 k l x r u) (r ++ vals (gR l) d x, u ++ vals (gU l) d x) := by
  intro d
  induction d with
  | zero =>
    intro x r u h0 h1 h2 h3
    refine ev_up ?_
    simp only [spec_l15Unfold.l0, pw_wrap (a := 4 * (l.length : Int)) (by omega) (by omega), if_neg (show ¬ x < 4 * (l.length : Int) by omega), vals, List.append_nil]
    exact Ev.now _
  | succ d ih =>
    intro x r u h0 h1 h2 h3
    have hm := spec_move hl hv h0 (show x < 4 * l.length by omega)
    have hi := ih (x + 1) (r ++ [gR l x]) (u ++ [gU l x]) (by omega) (by omega) (by simp; omega) (by simp; omega)
    refine ev_up ?_
    simp only [spec_l15Unfold.l0, pw_wrap (a := 4 * (l.length : Int)) (by omega) (by omega), if_pos (show x < 4 * (l.length : Int) by omega)]
    refine Ev.bind hm.1 ?_
    simp only [if_pos (show r.length < 17592186044416 by omega)]
    refine Ev.bind hm.2 ?_
    simp only [if_pos (show u.length < 17592186044416 by omega), pw_wrap (a := x + 1) (by omega) (by omega)]
    simpa [vals] using hi
theorem bits_table : Go.bits .and .i64 0 1 = 0 ∧ Go.bits .and .i64 1 1 = 1 ∧ Go.bits .and .i64 2 1 = 0 ∧ Go.bits .and .i64 3 1 = 1 ∧ Go.bits .and .i64 0 2 = 0 ∧ Go.bits .and .i64 1 2 = 0 ∧ Go.bits .and .i64 2 2 = 2 ∧ Go.bits .and .i64 3 2 = 2 ∧
    Go.bits .xor .i64 0 1 = 1 ∧ Go.bits .xor .i64 1 1 = 0 ∧ Go.bits .xor .i64 2 1 = 3 ∧ Go.bits .xor .i64 3 1 = 2 ∧ Go.bits .xor .i64 0 2 = 2 ∧ Go.bits .xor .i64 1 2 = 3 ∧ Go.bits .xor .i64 2 2 = 0 ∧ Go.bits .xor .i64 3 2 = 1 := by decide
theorem bits_k {k : Int} (h0 : 0 ≤ k) (h1 : k < 4) : (Go.bits .and .i64 k 1 = 1 ↔ k % 2 = 1) ∧ (Go.bits .and .i64 k 2 = 2 ↔ k / 2 % 2 = 1) ∧ Go.bits .xor .i64 k 1 = k + dirX k ∧ Go.bits .xor .i64 k 2 = k + dirY k * 2 := by
  have hb := bits_table
  obtain rfl | rfl | rfl | rfl : k = 0 ∨ k = 1 ∨ k = 2 ∨ k = 3 := by omega
  all_goals simp only [hb, dirX, dirY]; decide
theorem impl_unfold_j3 {l : List Cl} (hl : l.length ≤ 6) (hv : Near0 l) {i k : Int} (hi : 0 ≤ i ∧ i < l.length) (hk : 0 ≤ k ∧ k < 4) (r u : List Int) (hr : r.length ≤ 1000) (hu : u.length ≤ 1000) (res : List Int × List Int × Bool)
    (h : Ev (fun n => impl_UnfoldTable.l1 n l i (k + 1) l (l.length : Int) i (r ++ [gR l (4 * i + k)]) (u ++ [gU l (4 * i + k)]) (rd_T64 l i).f0 (rd_T64 l i).f1) res) :
    Ev (fun n => impl_UnfoldTable.j3 n l i k (dirX k) (dirY k) l (l.length : Int) i r u (rd_T64 l i).f0 (rd_T64 l i).f1) res := by
  have hc := near_rd hv hi.1 hi.2
  have hb := bits_k hk.1 hk.2
  have hdx : -1 ≤ dirX k ∧ dirX k ≤ 1 := by unfold dirX; split <;> omega
  have hdy : -1 ≤ dirY k ∧ dirY k ≤ 1 := by unfold dirY; split <;> omega
  have e1 : (4 * i + k) / 4 = i := by omega
  have e2 : (4 * i + k) % 4 = k := by omega
  have wj : ∀ a b : Int, wrap64 (4 * cellAt l a b) = 4 * cellAt l a b := fun a b => by have := spec_next_bd hl a b; exact pw_wrap (by omega) (by omega)
  have wjk : ∀ a b : Int, wrap64 (4 * cellAt l a b + k) = 4 * cellAt l a b + k := fun a b => by have := spec_next_bd hl a b; exact pw_wrap (by omega) (by omega)
  simp only [gR, gU, e1, e2] at h
  generalize rd_T64 l i = c at *
  refine ev_up ?_
  simp only [impl_UnfoldTable.j3, hb.2.2.1, hb.2.2.2, wj, wjk, pw_wrap (a := c.f0 + dirX k) (by omega) (by omega), pw_wrap (a := c.f1 + dirY k) (by omega) (by omega), pw_wrap (a := 4 * i) (by omega) (by omega), pw_wrap (a := k + 1) (by omega) (by omega),
    pw_wrap (a := 4 * i + (k + dirX k)) (by omega) (by omega), pw_wrap (a := 4 * i + (k + dirY k * 2)) (by omega) (by omega), if_pos (show r.length < 17592186044416 by omega), if_pos (show u.length < 17592186044416 by omega)]
  refine Ev.bind (impl_CellAt_ev l (by omega) _ _) ?_
  by_cases h1 : cellAt l (c.f0 + dirX k) c.f1 < 0
  · simp only [if_neg (show ¬ cellAt l (c.f0 + dirX k) c.f1 ≥ 0 by omega), wj, wjk]
    rw [if_pos h1, Int.add_assoc] at h
    refine Ev.bind (impl_CellAt_ev l (by omega) _ _) ?_
    by_cases h2 : cellAt l c.f0 (c.f1 + dirY k) < 0
    · simp only [if_neg (show ¬ cellAt l c.f0 (c.f1 + dirY k) ≥ 0 by omega), wj, wjk]
      rw [if_pos h2, Int.add_assoc] at h
      exact h
    · simp only [if_pos (show cellAt l c.f0 (c.f1 + dirY k) ≥ 0 by omega), wj, wjk]
      rw [if_neg h2] at h
      exact h
  · simp only [if_pos (show cellAt l (c.f0 + dirX k) c.f1 ≥ 0 by omega), wj, wjk]
    rw [if_neg h1] at h
    refine Ev.bind (impl_CellAt_ev l (by omega) _ _) ?_
    by_cases h2 : cellAt l c.f0 (c.f1 + dirY k) < 0
    · simp only [if_neg (show ¬ cellAt l c.f0 (c.f1 + dirY k) ≥ 0 by omega), wj, wjk]
      rw [if_pos h2, Int.add_assoc] at h
      exact h
    · simp only [if_pos (show cellAt l c.f0 (c.f1 + dirY k) ≥ 0 by omega), wj, wjk]
      rw [if_neg h2] at h
      exact h
theorem impl_unfold_l1 {l : List Cl} (hl : l.length ≤ 6) (hv : Near0 l) {i : Int} (hi : 0 ≤ i ∧ i < l.length) (res : List Int × List Int × Bool) : ∀ (d : Nat) (k : Int) (r u : List Int), 0 ≤ k → k + d = 4 → r.length + d ≤ 1000 → u.length + d ≤ 1000 →
    Ev (fun n => impl_UnfoldTable.l0 n l l (l.length : Int) (i + 1) (r ++ vals (gR l) d (4 * i + k)) (u ++ vals (gU l) d (4 * i + k))) res →
    Ev (fun n => impl_UnfoldTable.l1 n l i k l (l.length : Int) i r u (rd_T64 l i).f0 (rd_T64 l i).f1) res := by
  intro d
  induction d with
  | zero =>
    intro k r u h0 h1 h2 h3 h
    refine ev_up ?_
    simp only [impl_UnfoldTable.l1, if_neg (show ¬ k < 4 by omega), pw_wrap (a := i + 1) (by omega) (by omega)]
    simpa [vals] using h
  | succ d ih =>
    intro k r u h0 h1 h2 h3 h
    have hb := bits_k h0 (show k < 4 by omega)
    have hn := ih (k + 1) (r ++ [gR l (4 * i + k)]) (u ++ [gU l (4 * i + k)]) (by omega) (by omega) (by simp; omega) (by simp; omega) (by
      rw [← Int.add_assoc]
      simpa [vals] using h)
    have h3 := impl_unfold_j3 hl hv hi ⟨h0, by omega⟩ r u (by omega) (by omega) res hn
    have h2 : ∀ dx, dx = dirX k → Ev (fun n => impl_UnfoldTable.j2 n l i k dx 1 l (l.length : Int) i r u (rd_T64 l i).f0 (rd_T64 l i).f1) res := by
      rintro dx rfl
      refine ev_up ?_
      by_cases hp : k / 2 % 2 = 1
      · simp only [impl_UnfoldTable.j2, if_pos (hb.2.1.2 hp)]
        rw [show dirY k = -1 from by rw [dirY, if_pos hp]] at h3
        exact h3
      · simp only [impl_UnfoldTable.j2, if_neg (fun h => hp (hb.2.1.1 h))]
        rw [show dirY k = 1 from by rw [dirY, if_neg hp]] at h3
        exact h3
    refine ev_up ?_
    by_cases hp : k % 2 = 1
    · simp only [impl_UnfoldTable.l1, if_pos (show k < 4 by omega), if_pos (hb.1.2 hp)]
      exact h2 (-1) (by rw [dirX, if_pos hp])
    · simp only [impl_UnfoldTable.l1, if_pos (show k < 4 by omega), if_neg (fun h => hp (hb.1.1 h))]
      exact h2 1 (by rw [dirX, if_neg hp])
theorem impl_unfold_l0 {l : List Cl} (hl : l.length ≤ 6) (hv : Near0 l) : ∀ (d : Nat) (i : Int) (r u : List Int), 0 ≤ i → i + d = l.length → r.length + 4 * d ≤ 1000 → u.length + 4 * d ≤ 1000 →
    Ev (fun n => impl_UnfoldTable.l0 n l l (l.length : Int) i r u) (r ++ vals (gR l) (4 * d) (4 * i), u ++ vals (gU l) (4 * d) (4 * i), true) := by
  intro d
  induction d with
  | zero =>
    intro i r u h0 h1 h2 h3
    refine ev_up ?_
    simp only [impl_UnfoldTable.l0, if_neg (show ¬ i < (l.length : Int) by omega)]
    simpa [vals] using Ev.now (r, u, true)
  | succ d ih =>
    intro i r u h0 h1 h2 h3
    have hi : 0 ≤ i ∧ i < (l.length : Int) := by omega
    have e4 : ∀ g : Int → Int, vals g (4 * (d + 1)) (4 * i) = vals g 4 (4 * i + 0) ++ vals g (4 * d) (4 * (i + 1)) := fun g => by
      rw [show 4 * (d + 1) = 4 + 4 * d by omega, vals_add, Int.add_zero]
      congr 2
      push_cast
      omega
    have hn := ih (i + 1) (r ++ vals (gR l) 4 (4 * i + 0)) (u ++ vals (gU l) 4 (4 * i + 0)) (by omega) (by omega) (by simp [vals_len]; omega) (by simp [vals_len]; omega)
    refine ev_up ?_
    simp only [impl_UnfoldTable.l0, if_pos hi.2, if_pos h0]
    refine impl_unfold_l1 hl hv hi _ 4 0 r u (by omega) (by omega) (by omega) (by omega) ?_
    rw [e4, e4, ← List.append_assoc, ← List.append_assoc]
    exact hn
def unfR (l : List Cl) : List Int := vals (gR l) (4 * l.length) 0
def unfU (l : List Cl) : List Int := vals (gU l) (4 * l.length) 0
theorem spec_unfoldv {l : List Cl} (hl : l.length ≤ 6) (hv : Near0 l) : Ev (fun k => spec_l15Unfold.f k l) (unfR l, unfU l) :=
  spec_unfold_l0 hl hv (4 * l.length) 0 [] [] (by omega) (by push_cast; omega) (by simp; omega) (by simp; omega)
/-- What both answer. -/
def unfOf (l : List Cl) : List Int × List Int × Bool := if tableB l = true then (unfR l, unfU l, true) else ([], [], false)
theorem unfOf_len (l : List Cl) : (unfOf l).1.length ≤ 24 ∧ (unfOf l).2.1.length ≤ 24 := by
  unfold unfOf
  split
  · rename_i h
    have := (tableB_side h).1
    simp only [unfR, unfU, vals_len]
    omega
  · simp
theorem spec_unfold (l : List Cl) : Ev (fun k => spec_UnfoldTable.f k l) (unfOf l) := by
  unfold spec_UnfoldTable.f unfOf
  refine Ev.bind (spec_table l) ?_
  by_cases h : tableB l = true
  · obtain ⟨h1, h2, _, _⟩ := tableB_side h
    simp only [if_pos h]
    refine Ev.bind (spec_unfoldv h1.2 h2) ?_
    exact Ev.now _
  · simp only [if_neg h]
    exact Ev.now _
theorem impl_unfold (l : List Cl) : Ev (fun k => impl_UnfoldTable.f k l) (unfOf l) := by
  unfold impl_UnfoldTable.f unfOf
  refine Ev.bind (impl_table l) ?_
  by_cases h : tableB l = true
  · obtain ⟨h1, h2, _, _⟩ := tableB_side h
    simp only [if_pos h]
    exact impl_unfold_l0 h1.2 h2 l.length 0 [] [] (by omega) (by omega) (by simp; omega) (by simp; omega)
  · simp only [if_neg h]
    exact Ev.now _

theorem eqIntS_l0 (l : List Int) (hl : l.length ≤ 2147483648) : ∀ (suf pre : List Int), l = pre ++ suf → Ev (fun k => laws_eqIntS.l0 k l l (pre.length : Int)) true := by
  intro suf
  induction suf with
  | nil =>
    intro pre h
    subst h
    refine ev_up ?_
    simp only [laws_eqIntS.l0, if_neg (nlt_end pre)]
    exact Ev.now _
  | cons c suf ih =>
    intro pre h
    have := ih (pre ++ [c]) (by simp [h])
    subst h
    refine ev_up ?_
    simp only [laws_eqIntS.l0, if_pos (lt_mid pre suf c), if_pos (Int.natCast_nonneg pre.length), if_true, wrap_snoc (x := c) (s := suf) (p := pre) (by simp at hl ⊢; omega)]
    exact this
theorem eqIntS_ev (l : List Int) (hl : l.length ≤ 2147483648) : Ev (fun k => laws_eqIntS.f k l l) true := by
  unfold laws_eqIntS.f
  simp only [if_true]
  exact eqIntS_l0 l hl l [] rfl

/-- The numbers m, m + 1, .. -/
def marked : Nat → Int → List Int
  | 0, _ => []
  | n + 1, m => m :: marked n (m + 1)
theorem marked_len : ∀ (n : Nat) (m : Int), (marked n m).length = n
  | 0, _ => rfl
  | n + 1, m => by simp [marked, marked_len n]
theorem wrap_bd {a : Int} (h0 : -4611686018427387904 ≤ a) (h1 : a ≤ 4611686018427387904) : wrap64 a = a := by unfold wrap64; omega
theorem markIntS_l0 : ∀ (suf pre : List Int) (m : Int), (pre ++ suf).length ≤ 2147483648 → 0 ≤ m → m + suf.length ≤ 4000000000000000000 →
    Ev (fun k => laws_markIntS.l0 k (pre ++ suf) m (pre.length : Int)) (m + suf.length, pre ++ marked suf.length m) := by
  intro suf
  induction suf with
  | nil =>
    intro pre m _ _ _
    refine ev_up ?_
    simp only [laws_markIntS.l0, if_neg (nlt_end pre)]
    simpa [marked] using Ev.now (m, pre)
  | cons c suf ih =>
    intro pre m hl h0 h1
    have hs : (pre ++ c :: suf).set ((pre.length : Nat) : Int).toNat m = (pre ++ [m]) ++ suf := by simp
    have := ih (pre ++ [m]) (m + 1) (by simp at hl ⊢; omega) (by omega) (by simp at h1; omega)
    refine ev_up ?_
    simp only [laws_markIntS.l0, if_pos (lt_mid pre suf c), if_pos (Int.natCast_nonneg pre.length), hs, wrap_bd (a := m + 1) (by omega) (by simp at h1; omega), wrap_bd (a := (pre.length : Int) + 1) (by omega) (by simp at hl; omega)]
    rw [show (pre.length : Int) + 1 = ((pre ++ [m]).length : Int) by simp]
    rw [show m + ((c :: suf).length : Int) = m + 1 + (suf.length : Int) by simp; omega]
    simpa [marked] using this
theorem markIntS_ev (l : List Int) (m : Int) (hl : l.length ≤ 2147483648) (h0 : 0 ≤ m) (h1 : m ≤ 1000000000000000000) : Ev (fun k => laws_markIntS.f k l m) (m + l.length, marked l.length m) :=
  markIntS_l0 l [] m hl h0 (by omega)
theorem heldIntS_l0 : ∀ (n : Nat) (pre : List Int) (m : Int), pre.length + n ≤ 2147483648 → 0 ≤ m → m + n ≤ 4000000000000000000 →
    Ev (fun k => laws_heldIntS.l0 k (pre ++ marked n m) m (pre.length : Int)) (m + n) := by
  intro n
  induction n with
  | zero =>
    intro pre m _ _ _
    refine ev_up ?_
    simp only [laws_heldIntS.l0, marked, if_neg (nlt_end pre)]
    simpa using Ev.now m
  | succ n ih =>
    intro pre m hl h0 h1
    have := ih (pre ++ [m]) (m + 1) (by simp; omega) (by omega) (by omega)
    refine ev_up ?_
    simp only [laws_heldIntS.l0, marked, if_pos (lt_mid pre (marked n (m + 1)) m), if_pos (Int.natCast_nonneg pre.length), rd_mid, if_true, wrap_bd (a := m + 1) (by omega) (by omega), wrap_bd (a := (pre.length : Int) + 1) (by omega) (by omega)]
    rw [show (pre.length : Int) + 1 = ((pre ++ [m]).length : Int) by simp]
    rw [show m + ((n + 1 : Nat) : Int) = m + 1 + (n : Int) by push_cast; omega]
    simpa using this
theorem heldIntS_ev (n : Nat) (m : Int) (hl : n ≤ 2147483648) (h0 : 0 ≤ m) (h1 : m ≤ 1000000000000000000) : Ev (fun k => laws_heldIntS.f k (marked n m) m) (m + n) :=
  heldIntS_l0 n [] m (by simpa using hl) h0 (by omega)

theorem eqSurface_ev (a b : List Int) (ha : a.length ≤ 2147483648) (hb : b.length ≤ 2147483648) : Ev (fun k => laws_eqSurface.f k a b a b) true := by
  unfold laws_eqSurface.f
  refine Ev.bind (eqIntS_ev a ha) ?_
  simp only [if_true]
  refine Ev.bind (eqIntS_ev b hb) ?_
  exact Ev.now _
theorem markSurface_ev (a b : List Int) (m : Int) (ha : a.length ≤ 2147483648) (hb : b.length ≤ 2147483648) (h0 : 0 ≤ m) (h1 : m ≤ 100000000000) :
    Ev (fun k => laws_markSurface.f k a b m) (m + a.length + b.length, marked a.length m, marked b.length (m + a.length)) := by
  unfold laws_markSurface.f
  refine Ev.bind (markIntS_ev a m ha h0 (by omega)) ?_
  refine Ev.bind (markIntS_ev b (m + a.length) hb (by omega) (by omega)) ?_
  exact Ev.now _
theorem heldSurface_ev (a b : Nat) (m : Int) (ha : a ≤ 2147483648) (hb : b ≤ 2147483648) (h0 : 0 ≤ m) (h1 : m ≤ 100000000000) :
    Ev (fun k => laws_heldSurface.f k (marked a m) (marked b (m + a)) m) (m + a + b) := by
  unfold laws_heldSurface.f
  refine Ev.bind (heldIntS_ev a m ha h0 (by omega)) ?_
  simp only [if_neg (show ¬ m + (a : Int) < 0 by omega)]
  refine Ev.bind (heldIntS_ev b (m + a) hb (by omega) (by omega)) ?_
  simp only [if_neg (show ¬ m + (a : Int) + (b : Int) < 0 by omega)]
  exact Ev.now _

theorem markCellS_l0 : ∀ (d : Nat) (x : List Cl) (m i : Int), 0 ≤ i → i + d = x.length → x.length ≤ 1048576 → 0 ≤ m → m + 2 * d ≤ 100000000 →
    ∃ y, Ev (fun k => laws_markCellS.l0 k x m i) (m + 2 * d, y) := by
  intro d
  induction d with
  | zero =>
    intro x m i h0 h1 h2 h3 h4
    refine ⟨x, ev_up ?_⟩
    simp only [laws_markCellS.l0, if_neg (show ¬ i < (x.length : Int) by omega)]
    simpa using Ev.now (m, x)
  | succ d ih =>
    intro x m i h0 h1 h2 h3 h4
    obtain ⟨y, hy⟩ := ih ((x.set i.toNat (⟨m, (rd_T64 x i).f1⟩ : S64)).set i.toNat (⟨(rd_T64 (x.set i.toNat (⟨m, (rd_T64 x i).f1⟩ : S64)) i).f0, m + 1⟩ : S64)) (m + 2) (i + 1) (by omega) (by simp; omega) (by simpa using h2) (by omega) (by omega)
    refine ⟨y, ev_up ?_⟩
    simp only [laws_markCellS.l0, if_pos (show i < (x.length : Int) by omega), if_pos h0, Option.bind_some, wrap_bd (a := m + 1) (by omega) (by omega), wrap_bd (a := m + 1 + 1) (by omega) (by omega), wrap_bd (a := i + 1) (by omega) (by omega)]
    rw [show m + 2 * ((d + 1 : Nat) : Int) = m + 2 + 2 * (d : Int) by push_cast; omega, show m + 1 + 1 = m + 2 by omega]
    exact hy
theorem markCellS_ev (l : List Cl) (hl : l.length ≤ 1048576) : ∃ y, Ev (fun k => laws_markCellS.f k l 1) (1 + 2 * (l.length : Int), y) :=
  markCellS_l0 l.length l 1 0 (by omega) (by omega) hl (by omega) (by omega)

theorem FnExactUnfoldTable : laws_FnExactUnfoldTable.Pure := by
  intro l hm _
  apply Ev.rounds
  unfold laws_FnExactUnfoldTable.f
  by_cases hl : l.length ≤ 1048576
  · simp only [szCellS_eq l hm, if_pos hl, Option.bind_some]
    have hc : (l.map conv).length ≤ 1048576 := by simpa using hl
    have ha := unfOf_len (l.map conv)
    obtain ⟨y, hy⟩ := markCellS_ev _ hc
    have e1 := eqSurface_ev (unfOf (l.map conv)).1 (unfOf (l.map conv)).2.1 (by omega) (by omega)
    refine Ev.congr (f := fun k => _) (fun k => if_neg (by omega)) ?_
    refine Ev.bind (toCellS_ev l hl) ?_
    refine Ev.bind (spec_unfold _) ?_
    refine Ev.bind (toCellS_ev l hl) ?_
    refine Ev.bind (impl_unfold _) ?_
    refine Ev.bind e1 ?_
    simp only [if_true, bne_self_eq_false]
    refine ev_up ?_
    simp only [laws_FnExactUnfoldTable.j0, Bool.false_eq_true, if_false]
    refine Ev.bind (toCellS_ev l hl) ?_
    refine Ev.bind (eqCellS_ev _ hc) ?_
    simp only [if_true]
    refine Ev.bind hy ?_
    simp only [if_neg (show ¬ (1 + 2 * ((l.map conv).length : Int)) < 0 by omega)]
    refine Ev.bind e1 ?_
    simp only [if_true, bne_self_eq_false]
    refine ev_up ?_
    simp only [laws_FnExactUnfoldTable.j1, Bool.false_eq_true, if_false]
    refine Ev.bind (markSurface_ev _ _ 1 (by omega) (by omega) (by omega) (by omega)) ?_
    refine Ev.bind (heldSurface_ev _ _ 1 (by omega) (by omega) (by omega) (by omega)) ?_
    simp only [if_neg (show ¬ (1 + ((unfOf (l.map conv)).1.length : Int) + ((unfOf (l.map conv)).2.1.length : Int)) < 0 by omega), if_true]
    refine Ev.bind (toCellS_ev l hl) ?_
    refine Ev.bind (impl_unfold _) ?_
    refine Ev.bind e1 ?_
    simp only [if_true, bne_self_eq_false]
    refine ev_up ?_
    simp only [laws_FnExactUnfoldTable.j2, Bool.false_eq_true, if_false]
    refine Ev.bind (heldSurface_ev _ _ 1 (by omega) (by omega) (by omega) (by omega)) ?_
    simp only [if_neg (show ¬ (1 + ((unfOf (l.map conv)).1.length : Int) + ((unfOf (l.map conv)).2.1.length : Int)) < 0 by omega), if_true]
    exact Ev.now _
  · simp only [szCellS_eq l hm, if_neg hl, Option.bind_some]
    exact Ev.now _

end Go.Proofs.Ytjokajioaoiceaa.Pure
