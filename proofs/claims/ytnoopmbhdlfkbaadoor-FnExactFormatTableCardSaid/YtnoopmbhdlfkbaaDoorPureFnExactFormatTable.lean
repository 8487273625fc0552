/- The program's FormatTable returns what the reference's returns, for all arguments: no condition. -/
import Derived.Test.YtnoopmbhdlfkbaaDoorSayFnExactFormatTable
namespace Go.Proofs.YtnoopmbhdlfkbaaDoor.Pure
open Go.RowKit Go.Proofs.YtnoopmbhdlfkbaaDoor.S Go.Proofs.YtnoopmbhdlfkbaaDoorW.PrintWords Go.Proofs.YtnoopmbhdlfkbaaDoorW.PrintLast
set_option linter.unusedVariables false
set_option linter.unusedSimpArgs false

theorem ev_up {α : Type} {g : Nat → Option α} {r : α} (h : Ev (fun k => g (k + 1)) r) : Ev g r := Ev.step (fun _ => rfl) h
theorem ev_k {α : Type} {g : Nat → Option α} {r : α} {n : Nat} (h : ∀ k, n < k → g k = some r) : Ev g r := ⟨n + 1, fun k hk => h k (by omega)⟩

theorem pw_wf {a : Int} (h : (Lit.int .i64 a).wf = true) : -9223372036854775808 ≤ a ∧ a ≤ 9223372036854775807 := by
  simp [Lit.wf, IntKind.min, IntKind.max, IntKind.signed, IntKind.bits] at h
  omega
theorem pw_wrap {a : Int} (h0 : -9223372036854775808 ≤ a) (h1 : a ≤ 9223372036854775807) : wrap64 a = a := by
  unfold wrap64
  omega

theorem l01In_eq (a b c : Int) : spec_l01In.f a b c = some (decide (b ≤ a ∧ a ≤ c)) := by
  unfold spec_l01In.f
  split
  · rename_i h
    by_cases h2 : a ≤ c
    · rw [decide_eq_true h2, decide_eq_true ⟨h, h2⟩]
    · rw [decide_eq_false h2, decide_eq_false (fun h => h2 h.2)]
  · rename_i h
    rw [decide_eq_false (fun h2 => h h2.1)]

/-! Lists without a number twice; what is met from a place. -/
theorem nodup_len (n : Nat) : ∀ l : List Int, l.Nodup → (∀ x ∈ l, 0 ≤ x ∧ x < n) → l.length ≤ n := by
  induction n with
  | zero =>
    intro l _ h
    cases l with
    | nil => simp
    | cons x l => have := h x (by simp); omega
  | succ n ih =>
    intro l hn h
    have h2 := ih (l.filter (fun x => x != (n : Int))) (hn.filter _) (fun x hx => by
      have h3 := List.mem_filter.1 hx
      have h4 := h x h3.1
      have h5 : x ≠ (n : Int) := by simpa using h3.2
      omega)
    have h3 : l.length ≤ (l.filter (fun x => x != (n : Int))).length + 1 := by
      clear h h2 ih
      induction l with
      | nil => simp
      | cons y l ihl =>
        have hn2 := List.nodup_cons.1 hn
        by_cases hy : y = (n : Int)
        · have : l.filter (fun x => x != (n : Int)) = l := List.filter_eq_self.2 (fun x hx => by
            have : x ≠ (n : Int) := fun e => hn2.1 (by rw [hy, ← e]; exact hx)
            simpa using this)
          simp [hy, this]
        · have := ihl hn2.2
          simp [hy]
          omega
    omega
def push (q : List Int) (k : Int) : List Int := if 0 ≤ k ∧ k ∉ q then q ++ [k] else q
def pushAll (q : List Int) (ks : List Int) : List Int := ks.foldl push q
/-- Distinct numbers below n. -/
def Few (n : Nat) (q : List Int) : Prop := q.Nodup ∧ ∀ x ∈ q, 0 ≤ x ∧ x < (n : Int)
theorem few_push {n : Nat} {q : List Int} {k : Int} (h : Few n q) (hk : k < n) : Few n (push q k) := by
  unfold push
  split
  · rename_i h2
    refine ⟨?_, fun x hx => ?_⟩
    · rw [List.nodup_append]
      refine ⟨h.1, by simp, ?_⟩
      intro a ha b hb
      simp at hb
      subst hb
      exact fun e => h2.2 (e ▸ ha)
    · rcases List.mem_append.1 hx with hx | hx
      · exact h.2 x hx
      · simp at hx; subst hx; exact ⟨h2.1, hk⟩
  · exact h
theorem push_len (q : List Int) (k : Int) : q.length ≤ (push q k).length := by unfold push; split <;> simp
theorem few_pushAll {n : Nat} : ∀ (ks q : List Int), Few n q → (∀ k ∈ ks, k < n) → Few n (pushAll q ks) ∧ q.length ≤ (pushAll q ks).length
  | [], q, h, _ => ⟨h, Nat.le_refl _⟩
  | k :: ks, q, h, hk => by
    have h1 := few_push h (hk k (by simp))
    have h2 := few_pushAll ks (push q k) h1 (fun x hx => hk x (by simp [hx]))
    exact ⟨h2.1, Nat.le_trans (push_len q k) h2.2⟩
theorem few_len {n : Nat} {q : List Int} (h : Few n q) : q.length ≤ n := nodup_len n q h.1 h.2
/-- The queue behind the places from 'at_' on. -/
def bfs (nb : Int → List Int) : Nat → List Int → Nat → List Int
  | 0, q, _ => q
  | f + 1, q, i => if h : i < q.length then bfs nb f (pushAll q (nb q[i])) (i + 1) else q
theorem bfs_done (nb : Int → List Int) (f : Nat) (q : List Int) (i : Nat) (h : ¬ i < q.length) : bfs nb f q i = q := by
  cases f with
  | zero => rfl
  | succ f => rw [bfs, dif_neg h]
theorem bfs_few {n : Nat} (nb : Int → List Int) (hnb : ∀ x : Int, 0 ≤ x → x < (n : Int) → ∀ k ∈ nb x, k < (n : Int)) : ∀ (f : Nat) (q : List Int) (i : Nat), Few n q → Few n (bfs nb f q i)
  | 0, q, i, h => h
  | f + 1, q, i, h => by
    rw [bfs]
    split
    · rename_i hi
      have := h.2 _ (List.getElem_mem hi)
      exact bfs_few nb hnb f _ _ (few_pushAll (nb q[i]) q h (hnb q[i] this.1 this.2)).1
    · exact h

/-! Small words on lists, read at a place. -/
theorem len_snoc {α : Type} (p : List α) (x : α) : (p ++ [x]).length = p.length + 1 := by simp
theorem wrap_snoc {α : Type} {p s : List α} {x : α} (h : (p ++ x :: s).length ≤ 4611686018427387904) : wrap64 ((p.length : Int) + 1) = ((p ++ [x]).length : Int) := by
  simp at h ⊢
  unfold wrap64
  omega
theorem lt_mid {α : Type} (p s : List α) (x : α) : ((p.length : Nat) : Int) < ((p ++ x :: s).length : Int) := by simp; omega
theorem nlt_end {α : Type} (p : List α) : ¬ ((p.length : Nat) : Int) < ((p ++ []).length : Int) := by simp
theorem rd_mid (p s : List Int) (x : Int) : rd (p ++ x :: s) (p.length : Int) = x := by simp [rd, List.getD]
theorem nil_or_snoc {α : Type} (l : List α) : l = [] ∨ ∃ p x, l = p ++ [x] := by
  rcases List.eq_nil_or_concat l with h | ⟨p, x, h⟩
  · exact .inl h
  · exact .inr ⟨p, x, by rw [h]; simp⟩

theorem spec_has_l0 (l : List Int) (hl : l.length ≤ 4611686018427387904) (x : Int) : ∀ (suf pre : List Int), l = pre ++ suf →
    Ev (fun k => spec_l02Has.l0 k x l (l.length : Int) (pre.length : Int)) (decide (x ∈ suf)) := by
  intro suf
  induction suf with
  | nil =>
    intro pre h
    subst h
    refine ev_up ?_
    simp only [spec_l02Has.l0, if_neg (nlt_end pre)]
    simpa using Ev.now false
  | cons c suf ih =>
    intro pre h
    have := ih (pre ++ [c]) (by simp [h])
    subst h
    refine ev_up ?_
    by_cases hc : c = x
    · simp only [spec_l02Has.l0, if_pos (lt_mid pre suf c), if_pos (Int.natCast_nonneg pre.length), rd_mid, if_pos hc]
      simpa [hc] using Ev.now true
    · simp only [spec_l02Has.l0, if_pos (lt_mid pre suf c), if_pos (Int.natCast_nonneg pre.length), rd_mid, if_neg hc, wrap_snoc hl]
      rw [show decide (x ∈ c :: suf) = decide (x ∈ suf) by simp [Ne.symm hc]]
      exact this
theorem spec_has (l : List Int) (hl : l.length ≤ 4611686018427387904) (x : Int) : Ev (fun k => spec_l02Has.f k l x) (decide (x ∈ l)) := spec_has_l0 l hl x l [] rfl

/-- The place of the first x, or -1. -/
def idxGo (x : Int) : List Int → Int → Int
  | [], _ => -1
  | c :: cs, i => if c = x then i else idxGo x cs (i + 1)
theorem impl_index_l0 (l : List Int) (hl : l.length ≤ 4611686018427387904) (x : Int) : ∀ (suf pre : List Int), l = pre ++ suf →
    Ev (fun k => slices_Index_int_int.l0 k l x (l.length : Int) (pre.length : Int)) (idxGo x suf pre.length) := by
  intro suf
  induction suf with
  | nil =>
    intro pre h
    subst h
    refine ev_up ?_
    simp only [slices_Index_int_int.l0, if_neg (nlt_end pre)]
    exact Ev.now _
  | cons c suf ih =>
    intro pre h
    have := ih (pre ++ [c]) (by simp [h])
    subst h
    refine ev_up ?_
    by_cases hc : c = x
    · simp only [slices_Index_int_int.l0, if_pos (lt_mid pre suf c), if_pos (Int.natCast_nonneg pre.length), rd_mid, if_pos hc.symm]
      rw [idxGo, if_pos hc]
      exact Ev.now _
    · simp only [slices_Index_int_int.l0, if_pos (lt_mid pre suf c), if_pos (Int.natCast_nonneg pre.length), rd_mid, if_neg (Ne.symm hc), wrap_snoc hl]
      rw [idxGo, if_neg hc, show (pre.length : Int) + 1 = ((pre ++ [c]).length : Int) by simp]
      exact this
theorem impl_index (l : List Int) (hl : l.length ≤ 4611686018427387904) (x : Int) : Ev (fun k => slices_Index_int_int.f k l x) (idxGo x l 0) := impl_index_l0 l hl x l [] rfl
theorem idx_mem (x : Int) : ∀ (l : List Int) (i : Int), 0 ≤ i → (decide (idxGo x l i ≥ 0) = decide (x ∈ l))
  | [], i, _ => by simp [idxGo]
  | c :: cs, i, h => by
    by_cases hc : c = x
    · simp [idxGo, hc, h]
    · rw [idxGo, if_neg hc, idx_mem x cs (i + 1) (by omega)]
      simp [Ne.symm hc]
theorem impl_contains (l : List Int) (hl : l.length ≤ 4611686018427387904) (x : Int) : Ev (fun k => slices_Contains_int_int.f k l x) (decide (x ∈ l)) := by
  unfold slices_Contains_int_int.f
  refine Ev.bind (impl_index l hl x) ?_
  simp only [idx_mem x l 0 (Int.le_refl 0)]
  exact Ev.now _

/-! Cells of a table: the law's, and the program's. -/
theorem rdT_mid (p s : List S112) (x : S112) : rd_T112 (p ++ x :: s) (p.length : Int) = x := by simp [rd_T112, List.getD]
theorem rdL_mid (p s : List S114) (x : S114) : rd_T114 (p ++ x :: s) (p.length : Int) = x := by simp [rd_T114, List.getD]
abbrev Cl := S112
def conv (c : S114) : Cl := ⟨c.f0, c.f1⟩
theorem szCellS_eq (l : List S114) (hl : l.length ≤ 9223372036854775807) : laws_szCellS.f l 1048576 = some (if l.length ≤ 1048576 then 1048576 - (l.length : Int) else -1) := by
  unfold laws_szCellS.f
  have e : wrap64 (1048576 - (l.length : Int)) = 1048576 - (l.length : Int) := by unfold wrap64; omega
  rw [e]
  by_cases h : l.length ≤ 1048576
  · rw [if_neg (by omega), if_pos h]
  · rw [if_pos (by omega), if_neg h]
theorem toCellS_l0 (l : List S114) (hl : l.length ≤ 1048576) : ∀ (suf pre : List S114), l = pre ++ suf →
    Ev (fun k => laws_toCellS.l0 k l (pre.map conv ++ List.replicate suf.length z112) (pre.length : Int)) (l.map conv) := by
  intro suf
  induction suf with
  | nil =>
    intro pre h
    subst h
    refine ⟨1, fun k hk => ?_⟩
    obtain ⟨k, rfl⟩ : ∃ m, k = m + 1 := ⟨k - 1, by omega⟩
    simp only [laws_toCellS.l0]
    rw [if_neg (nlt_end pre)]
    simp
  | cons c suf ih =>
    intro pre h
    have := ih (pre ++ [c]) (by simp [h])
    subst h
    refine Ev.step (fun k => ?_) this
    simp only [laws_toCellS.l0]
    rw [if_pos (lt_mid pre suf c), if_pos (Int.natCast_nonneg _), rdL_mid]
    simp only [laws_toCell.f, Option.bind_some]
    rw [if_pos (by simp; omega), wrap_snoc (s := suf) (by simp at hl ⊢; omega)]
    congr 1
    simp [List.replicate_succ, conv]
theorem toCellS_ev (l : List S114) (hl : l.length ≤ 1048576) : Ev (fun k => laws_toCellS.f k l) (l.map conv) := by
  have := toCellS_l0 l hl l [] rfl
  refine Ev.congr (fun k => ?_) this
  unfold laws_toCellS.f
  rw [if_pos (by omega), if_pos (by omega)]
  simp
theorem eqCell_eq (a b c d : Int) : laws_eqCell.f a b c d = some (decide (a = c ∧ b = d)) := by
  unfold laws_eqCell.f
  by_cases h : a = c
  · by_cases h2 : b = d
    · simp [h, h2]
    · simp [h, h2]
  · simp [h]
theorem eqCellS_l0 (l : List Cl) (hl : l.length ≤ 1048576) : ∀ (suf pre : List Cl), l = pre ++ suf → Ev (fun k => laws_eqCellS.l0 k l l (pre.length : Int)) true := by
  intro suf
  induction suf with
  | nil =>
    intro pre h
    subst h
    refine ⟨1, fun k hk => ?_⟩
    obtain ⟨k, rfl⟩ : ∃ m, k = m + 1 := ⟨k - 1, by omega⟩
    simp only [laws_eqCellS.l0]
    rw [if_neg (nlt_end pre)]
  | cons c suf ih =>
    intro pre h
    have := ih (pre ++ [c]) (by simp [h])
    subst h
    refine Ev.step (fun k => ?_) this
    simp only [laws_eqCellS.l0]
    rw [if_pos (lt_mid pre suf c), if_pos (Int.natCast_nonneg _), if_pos (lt_mid pre suf c), rdT_mid, eqCell_eq]
    simp only [Option.bind_some, and_self, decide_true, if_true]
    rw [wrap_snoc (s := suf) (by simp at hl ⊢; omega)]
theorem eqCellS_ev (l : List Cl) (hl : l.length ≤ 1048576) : Ev (fun k => laws_eqCellS.f k l l) true := by
  have := eqCellS_l0 l hl l [] rfl
  refine Ev.congr (fun k => ?_) this
  unfold laws_eqCellS.f
  rw [if_pos rfl]
  simp
/-- The place of the first cell with these coordinates, or -1. -/
def cellGo (x y : Int) : List Cl → Int → Int
  | [], _ => -1
  | c :: cs, i => if c.f0 = x ∧ c.f1 = y then i else cellGo x y cs (i + 1)
def cellAt (l : List Cl) (x y : Int) : Int := cellGo x y l 0
theorem spec_CellAt_l0 (l : List Cl) (hl : l.length ≤ 1048576) (x y : Int) : ∀ (suf pre : List Cl), l = pre ++ suf →
    Ev (fun k => spec_CellAt.l0 k x y l (l.length : Int) (pre.length : Int)) (cellGo x y suf pre.length) := by
  intro suf
  induction suf with
  | nil =>
    intro pre h
    subst h
    refine ⟨1, fun k hk => ?_⟩
    obtain ⟨k, rfl⟩ : ∃ m, k = m + 1 := ⟨k - 1, by omega⟩
    simp only [spec_CellAt.l0]
    rw [if_neg (nlt_end pre)]
    rfl
  | cons c suf ih =>
    intro pre h
    have := ih (pre ++ [c]) (by simp [h])
    subst h
    by_cases hc : c.f0 = x ∧ c.f1 = y
    · refine Ev.step (f := fun _ => some ((pre.length : Nat) : Int)) (fun k => ?_) (by rw [cellGo, if_pos hc]; exact Ev.now _)
      simp only [spec_CellAt.l0]
      rw [if_pos (lt_mid pre suf c), if_pos (Int.natCast_nonneg _), if_pos (lt_mid pre suf c), rdT_mid, if_pos hc.1, if_pos hc.2]
    · rw [cellGo, if_neg hc]
      rw [show ((pre ++ [c]).length : Int) = (pre.length : Int) + 1 by simp] at this
      refine Ev.step (fun k => ?_) this
      simp only [spec_CellAt.l0]
      rw [if_pos (lt_mid pre suf c), if_pos (Int.natCast_nonneg _), if_pos (lt_mid pre suf c), rdT_mid, wrap_snoc (x := c) (s := suf) (by simp at hl ⊢; omega)]
      by_cases h1 : c.f0 = x
      · rw [if_pos h1, if_neg (fun h2 => hc ⟨h1, h2⟩)]; simp
      · rw [if_neg h1]; simp
theorem spec_CellAt_ev (l : List Cl) (hl : l.length ≤ 1048576) (x y : Int) : Ev (fun k => spec_CellAt.f k l x y) (cellAt l x y) := spec_CellAt_l0 l hl x y l [] rfl
theorem impl_Index_l0 (l : List Cl) (hl : l.length ≤ 1048576) (x y : Int) : ∀ (suf pre : List Cl), l = pre ++ suf →
    Ev (fun k => impl_Cell.l0 k l (l.length : Int) (pre.length : Int) x y) (cellGo x y suf pre.length) := by
  intro suf
  induction suf with
  | nil =>
    intro pre h
    subst h
    refine ⟨1, fun k hk => ?_⟩
    obtain ⟨k, rfl⟩ : ∃ m, k = m + 1 := ⟨k - 1, by omega⟩
    simp only [impl_Cell.l0]
    rw [if_neg (nlt_end pre)]
    rfl
  | cons c suf ih =>
    intro pre h
    have := ih (pre ++ [c]) (by simp [h])
    subst h
    by_cases hc : c.f0 = x ∧ c.f1 = y
    · refine Ev.step (f := fun _ => some ((pre.length : Nat) : Int)) (fun k => ?_) (by rw [cellGo, if_pos hc]; exact Ev.now _)
      simp only [impl_Cell.l0]
      rw [if_pos (lt_mid pre suf c), if_pos (Int.natCast_nonneg _), if_pos (lt_mid pre suf c), rdT_mid, hc.1, hc.2]
      simp
    · rw [cellGo, if_neg hc]
      rw [show ((pre ++ [c]).length : Int) = (pre.length : Int) + 1 by simp] at this
      refine Ev.step (fun k => ?_) this
      simp only [impl_Cell.l0]
      rw [if_pos (lt_mid pre suf c), if_pos (Int.natCast_nonneg _), if_pos (lt_mid pre suf c), rdT_mid, wrap_snoc (x := c) (s := suf) (by simp at hl ⊢; omega)]
      rw [if_neg (by simp; exact fun h1 h2 => hc ⟨h1.symm, h2.symm⟩)]
      simp
theorem impl_CellAt_ev (l : List Cl) (hl : l.length ≤ 1048576) (x y : Int) : Ev (fun k => impl_CellAt.f k l x y) (cellAt l x y) := by
  refine Ev.bind (impl_Index_l0 l hl x y l [] rfl) ?_
  exact Ev.now _

theorem cellGo_bd (x y : Int) : ∀ (l : List Cl) (i : Int), cellGo x y l i = -1 ∨ (i ≤ cellGo x y l i ∧ cellGo x y l i < i + l.length)
  | [], i => .inl rfl
  | c :: cs, i => by
    rw [cellGo]
    split
    · right; simp; omega
    · rcases cellGo_bd x y cs (i + 1) with h | ⟨h1, h2⟩
      · exact .inl h
      · right; simp; omega
theorem cellAt_bd (l : List Cl) (x y : Int) : -1 ≤ cellAt l x y ∧ cellAt l x y < l.length := by
  unfold cellAt
  rcases cellGo_bd x y l 0 with h | ⟨h1, h2⟩ <;> omega
/-- The neighbours of a cell: right, left, up, down; -1 where there is none. -/
def nbrs (l : List Cl) (i : Int) : List Int :=
  [cellAt l ((rd_T112 l i).f0 + 1) (rd_T112 l i).f1, cellAt l ((rd_T112 l i).f0 + -1) (rd_T112 l i).f1, cellAt l (rd_T112 l i).f0 ((rd_T112 l i).f1 + 1), cellAt l (rd_T112 l i).f0 ((rd_T112 l i).f1 + -1)]
theorem nbrs_lt (l : List Cl) (i : Int) : ∀ k ∈ nbrs l i, k < (l.length : Int) := by
  intro k hk
  simp only [nbrs, List.mem_cons, List.not_mem_nil, or_false] at hk
  rcases hk with rfl | rfl | rfl | rfl <;> exact (cellAt_bd ..).2
/-- The cells lie where tables lie. -/
def Near0 (l : List Cl) : Prop := ∀ c ∈ l, 0 ≤ c.f0 ∧ c.f0 ≤ 9 ∧ 0 ≤ c.f1 ∧ c.f1 ≤ 9
theorem near_rd {l : List Cl} (hv : Near0 l) {i : Int} (h0 : 0 ≤ i) (h1 : i < l.length) : 0 ≤ (rd_T112 l i).f0 ∧ (rd_T112 l i).f0 ≤ 9 ∧ 0 ≤ (rd_T112 l i).f1 ∧ (rd_T112 l i).f1 ≤ 9 := by
  have h : i.toNat < l.length := by omega
  have e : rd_T112 l i = l[i.toNat] := by simp [rd_T112, List.getD, h]
  rw [e]
  exact hv _ (List.getElem_mem h)
theorem spec_next {l : List Cl} (hl : l.length ≤ 1048576) (hv : Near0 l) {i : Int} (h0 : 0 ≤ i) (h1 : i < l.length) (dx dy : Int) (hx : -1 ≤ dx ∧ dx ≤ 1) (hy : -1 ≤ dy ∧ dy ≤ 1) :
    Ev (fun k => spec_l15Next.f k l i dx dy) (cellAt l ((rd_T112 l i).f0 + dx) ((rd_T112 l i).f1 + dy)) := by
  have hr := near_rd hv h0 h1
  simp only [spec_l15Next.f, if_pos h0, if_pos h1, pw_wrap (a := (rd_T112 l i).f0 + dx) (by omega) (by omega), pw_wrap (a := (rd_T112 l i).f1 + dy) (by omega) (by omega)]
  refine Ev.bind (spec_CellAt_ev l hl _ _) ?_
  exact Ev.now _
theorem spec_near_l0 (ys : List Int) (hy : ys.length ≤ 1000) : ∀ (suf pre acc : List Int), ys = pre ++ suf → acc.length + suf.length ≤ 1000 →
    Ev (fun k => spec_l15Near.l0 k acc ys (ys.length : Int) (pre.length : Int)) (acc ++ suf.filter (fun k => decide (0 ≤ k))) := by
  intro suf
  induction suf with
  | nil =>
    intro pre acc h ha
    subst h
    refine ev_up ?_
    simp only [spec_l15Near.l0, if_neg (nlt_end pre)]
    simpa using Ev.now acc
  | cons c suf ih =>
    intro pre acc h ha
    have hi := fun acc' h' => ih (pre ++ [c]) acc' (by simp [h]) h'
    subst h
    refine ev_up ?_
    simp only [spec_l15Near.l0, if_pos (lt_mid pre suf c), if_pos (Int.natCast_nonneg pre.length), rd_mid, wrap_snoc (x := c) (s := suf) (p := pre) (by simp at hy ⊢; omega)]
    by_cases hc : c ≥ 0
    · simp only [if_pos hc, if_pos (show acc.length < 17592186044416 by omega)]
      have := hi (acc ++ [c]) (by simp at ha ⊢; omega)
      rw [List.append_assoc] at this
      simpa [hc] using this
    · simp only [if_neg hc]
      have := hi acc (by simp at ha ⊢; omega)
      simpa [hc] using this
theorem spec_near {l : List Cl} (hl : l.length ≤ 1048576) (hv : Near0 l) {i : Int} (h0 : 0 ≤ i) (h1 : i < l.length) :
    Ev (fun k => spec_l15Near.f k l i) ((nbrs l i).filter (fun k => decide (0 ≤ k))) := by
  unfold spec_l15Near.f
  refine Ev.bind (spec_next hl hv h0 h1 1 0 (by omega) (by omega)) ?_
  refine Ev.bind (spec_next hl hv h0 h1 (-1) 0 (by omega) (by omega)) ?_
  refine Ev.bind (spec_next hl hv h0 h1 0 1 (by omega) (by omega)) ?_
  refine Ev.bind (spec_next hl hv h0 h1 0 (-1) (by omega) (by omega)) ?_
  simp only [Option.bind_some]
  have := spec_near_l0 (nbrs l i) (by simp [nbrs]) (nbrs l i) [] [] rfl (by simp [nbrs])
  simp only [nbrs, List.nil_append, List.length_nil, Int.add_zero, Int.ofNat_zero] at this ⊢
  exact this
theorem pushAll_filter : ∀ (ks q : List Int), pushAll q (ks.filter (fun k => decide (0 ≤ k))) = pushAll q ks
  | [], q => rfl
  | k :: ks, q => by
    by_cases hk : 0 ≤ k
    · simp only [List.filter_cons, hk, decide_true, if_true, pushAll, List.foldl_cons]
      exact pushAll_filter ks (push q k)
    · have : push q k = q := by unfold push; rw [if_neg (fun h => hk h.1)]
      simp only [List.filter_cons, hk, decide_false, Bool.false_eq_true, if_false, pushAll, List.foldl_cons, this]
      exact pushAll_filter ks q
theorem spec_table_l2 (l : List Cl) (hl : l.length ≤ 6) (x6 : Int) (hx : 0 ≤ x6 ∧ x6 ≤ 1000) (ys : List Int) (hy : ys.length ≤ 1000) (r : Bool) : ∀ (suf pre q : List Int), ys = pre ++ suf → Few l.length q → (∀ k ∈ suf, 0 ≤ k ∧ k < (l.length : Int)) →
    Ev (fun k => spec_TableOk.l1 k l (pushAll q suf) (x6 + 1)) r → Ev (fun k => spec_TableOk.l2 k l q x6 ys (ys.length : Int) (pre.length : Int)) r := by
  intro suf
  induction suf with
  | nil =>
    intro pre q h hq hk hr
    subst h
    refine ev_up ?_
    simp only [spec_TableOk.l2, if_neg (nlt_end pre), pw_wrap (a := x6 + 1) (by omega) (by omega)]
    exact hr
  | cons c suf ih =>
    intro pre q h hq hk hr
    have hc := hk c (by simp)
    have hf := few_push hq hc.2
    have hi := ih (pre ++ [c]) (push q c) (by simp [h]) hf (fun k h' => hk k (by simp [h'])) hr
    subst h
    have hql := few_len hq
    refine ev_up ?_
    simp only [spec_TableOk.l2, if_pos (lt_mid pre suf c), if_pos (Int.natCast_nonneg pre.length), rd_mid, wrap_snoc (x := c) (s := suf) (p := pre) (by simp at hy ⊢; omega)]
    refine Ev.bind (spec_has q (by omega) c) ?_
    by_cases hm : c ∈ q
    · simp only [decide_eq_true hm, if_true]
      unfold push at hi
      rw [if_neg (fun h => h.2 hm)] at hi
      exact hi
    · simp only [decide_eq_false hm, Bool.false_eq_true, if_false, if_pos (show q.length < 17592186044416 by omega)]
      unfold push at hi
      rw [if_pos ⟨hc.1, hm⟩] at hi
      exact hi
theorem impl_table_l2 (l : List Cl) (hl : l.length ≤ 6) (x6 : Int) (hx : 0 ≤ x6 ∧ x6 ≤ 1000) (ys : List Int) (hy : ys.length ≤ 1000) (r : Bool) : ∀ (suf pre q : List Int), ys = pre ++ suf → Few l.length q → (∀ k ∈ suf, k < (l.length : Int)) →
    Ev (fun k => impl_TableOk.l1 k l (pushAll q suf) (x6 + 1)) r → Ev (fun k => impl_TableOk.l2 k l q x6 ys (ys.length : Int) (pre.length : Int)) r := by
  intro suf
  induction suf with
  | nil =>
    intro pre q h hq hk hr
    subst h
    refine ev_up ?_
    simp only [impl_TableOk.l2, if_neg (nlt_end pre), pw_wrap (a := x6 + 1) (by omega) (by omega)]
    exact hr
  | cons c suf ih =>
    intro pre q h hq hk hr
    have hc := hk c (by simp)
    have hf := few_push hq hc
    have hi := ih (pre ++ [c]) (push q c) (by simp [h]) hf (fun k h' => hk k (by simp [h'])) hr
    subst h
    have hql := few_len hq
    refine ev_up ?_
    simp only [impl_TableOk.l2, if_pos (lt_mid pre suf c), if_pos (Int.natCast_nonneg pre.length), rd_mid, wrap_snoc (x := c) (s := suf) (p := pre) (by simp at hy ⊢; omega)]
    by_cases h0 : c ≥ 0
    · simp only [if_pos h0]
      refine Ev.bind (impl_contains q (by omega) c) ?_
      by_cases hm : c ∈ q
      · simp only [decide_eq_true hm, if_true]
        unfold push at hi
        rw [if_neg (fun h => h.2 hm)] at hi
        exact hi
      · simp only [decide_eq_false hm, Bool.false_eq_true, if_false, if_pos (show q.length < 17592186044416 by omega)]
        unfold push at hi
        rw [if_pos ⟨h0, hm⟩] at hi
        exact hi
    · simp only [if_neg h0]
      unfold push at hi
      rw [if_neg (fun h => h0 h.1)] at hi
      exact hi
/-- Everything is met from the first cell. -/
def whole (l : List Cl) (f : Nat) (q : List Int) (i : Nat) : Bool := ((bfs (nbrs l) f q i).length : Int) == (l.length : Int)
theorem rd_get (q : List Int) (i : Nat) (h : i < q.length) : rd q (i : Int) = q[i] := by simp [rd, List.getD, h]
theorem spec_table_l1 (l : List Cl) (hl : l.length ≤ 6) (hv : Near0 l) : ∀ (f : Nat) (q : List Int) (i : Nat), Few l.length q → i ≤ q.length → f + i = l.length + 1 →
    Ev (fun k => spec_TableOk.l1 k l q (i : Int)) (whole l f q i) := by
  intro f
  induction f with
  | zero =>
    intro q i hq hi hf
    have := few_len hq
    omega
  | succ f ih =>
    intro q i hq hi hf
    have hql := few_len hq
    refine ev_up ?_
    by_cases h : i < q.length
    · have hx := hq.2 _ (List.getElem_mem h)
      simp only [spec_TableOk.l1, if_pos (show ((i : Nat) : Int) < (q.length : Int) by omega), if_pos (Int.natCast_nonneg i), rd_get q i h]
      refine Ev.bind (spec_near (by omega) hv hx.1 hx.2) ?_
      have hlt : ∀ k ∈ (nbrs l q[i]).filter (fun k => decide (0 ≤ k)), 0 ≤ k ∧ k < (l.length : Int) := fun k hk => by
        have := List.mem_filter.1 hk
        exact ⟨by simpa using this.2, nbrs_lt l _ k this.1⟩
      have hp := few_pushAll _ q hq (fun k hk => (hlt k hk).2)
      have := ih _ (i + 1) hp.1 (by have := hp.2; omega) (by omega)
      refine spec_table_l2 l hl i (by omega) _ (Nat.le_trans (List.length_filter_le _ _) (by simp [nbrs])) _ _ [] q rfl hq hlt ?_
      rw [whole, bfs, dif_pos h, ← pushAll_filter (nbrs l q[i]) q]
      exact this
    · simp only [spec_TableOk.l1, if_neg (show ¬ ((i : Nat) : Int) < (q.length : Int) by omega)]
      rw [whole, bfs_done _ _ _ _ h]
      exact Ev.now _
theorem impl_table_l1 (l : List Cl) (hl : l.length ≤ 6) (hv : Near0 l) : ∀ (f : Nat) (q : List Int) (i : Nat), Few l.length q → i ≤ q.length → f + i = l.length + 1 →
    Ev (fun k => impl_TableOk.l1 k l q (i : Int)) (whole l f q i) := by
  intro f
  induction f with
  | zero =>
    intro q i hq hi hf
    have := few_len hq
    omega
  | succ f ih =>
    intro q i hq hi hf
    have hql := few_len hq
    refine ev_up ?_
    by_cases h : i < q.length
    · have hx := hq.2 _ (List.getElem_mem h)
      have hr := near_rd hv hx.1 hx.2
      generalize hc : rd_T112 l q[i] = c at hr
      simp only [impl_TableOk.l1, if_pos (show ((i : Nat) : Int) < (q.length : Int) by omega), if_pos (Int.natCast_nonneg i), rd_get q i h, if_pos hx.1, if_pos hx.2, hc,
        pw_wrap (a := c.f0 + 1) (by omega) (by omega), pw_wrap (a := c.f0 - 1) (by omega) (by omega), pw_wrap (a := c.f1 + 1) (by omega) (by omega), pw_wrap (a := c.f1 - 1) (by omega) (by omega)]
      refine Ev.bind (impl_CellAt_ev l (by omega) _ _) ?_
      refine Ev.bind (impl_CellAt_ev l (by omega) _ _) ?_
      refine Ev.bind (impl_CellAt_ev l (by omega) _ _) ?_
      refine Ev.bind (impl_CellAt_ev l (by omega) _ _) ?_
      simp only [Option.bind_some]
      have hp := few_pushAll _ q hq (nbrs_lt l q[i])
      have := ih _ (i + 1) hp.1 (by have := hp.2; omega) (by omega)
      have := impl_table_l2 l hl i (by omega) (nbrs l q[i]) (by simp [nbrs]) _ _ [] q rfl hq (nbrs_lt l q[i]) this
      rw [whole, bfs, dif_pos h]
      unfold nbrs at this ⊢
      rw [hc] at this ⊢
      exact this
    · simp only [impl_TableOk.l1, if_neg (show ¬ ((i : Nat) : Int) < (q.length : Int) by omega)]
      rw [whole, bfs_done _ _ _ _ h]
      exact Ev.now _
/-- The cells lie in range, in ascending order of row and then column. -/
def vGo : Option Cl → List Cl → Bool
  | _, [] => true
  | none, c :: cs => decide (0 ≤ c.f0 ∧ c.f0 ≤ 9) && decide (0 ≤ c.f1 ∧ c.f1 ≤ 9) && vGo (some c) cs
  | some p, c :: cs => decide (0 ≤ c.f0 ∧ c.f0 ≤ 9) && decide (0 ≤ c.f1 ∧ c.f1 ≤ 9) && !decide (c.f1 < p.f1 ∨ c.f1 = p.f1 ∧ c.f0 ≤ p.f0) && vGo (some c) cs
theorem vGo_near : ∀ (p : Option Cl) (l : List Cl), vGo p l = true → Near0 l
  | _, [], _ => fun c hc => by simp at hc
  | none, c :: cs, h => by
    simp only [vGo, Bool.and_eq_true, decide_eq_true_eq] at h
    intro d hd
    rcases List.mem_cons.1 hd with rfl | hd
    · exact ⟨h.1.1.1, h.1.1.2, h.1.2.1, h.1.2.2⟩
    · exact vGo_near (some c) cs h.2 d hd
  | some p, c :: cs, h => by
    simp only [vGo, Bool.and_eq_true, decide_eq_true_eq] at h
    intro d hd
    rcases List.mem_cons.1 hd with rfl | hd
    · exact ⟨h.1.1.1.1, h.1.1.1.2, h.1.1.2.1, h.1.1.2.2⟩
    · exact vGo_near (some c) cs h.2 d hd
def tableB (l : List Cl) : Bool := decide (1 ≤ l.length ∧ l.length ≤ 6) && vGo none l && whole l (l.length + 1) [0] 0
theorem tableB_side {l : List Cl} (h : tableB l = true) : (1 ≤ l.length ∧ l.length ≤ 6) ∧ Near0 l ∧ vGo none l = true ∧ whole l (l.length + 1) [0] 0 = true := by
  simp only [tableB, Bool.and_eq_true, decide_eq_true_eq] at h
  exact ⟨h.1.1, vGo_near _ _ h.1.2, h.1.2, h.2⟩

theorem few_zero {n : Nat} (h : 1 ≤ n) : Few n [0] := ⟨by simp, fun x hx => by simp at hx; subst hx; omega⟩
theorem near_snoc {pre : List Cl} {c : Cl} (h : Near0 pre) (hc : 0 ≤ c.f0 ∧ c.f0 ≤ 9 ∧ 0 ≤ c.f1 ∧ c.f1 ≤ 9) : Near0 (pre ++ [c]) := by
  intro d hd
  rcases List.mem_append.1 hd with hd | hd
  · exact h d hd
  · simp at hd; subst hd; exact hc
theorem spec_table_l0 (l : List Cl) (hn : 1 ≤ l.length ∧ l.length ≤ 6) : ∀ (suf pre : List Cl), l = pre ++ suf → Near0 pre →
    Ev (fun k => spec_TableOk.l0 k l l (l.length : Int) (pre.length : Int)) (vGo pre.getLast? suf && whole l (l.length + 1) [0] 0) := by
  intro suf
  induction suf with
  | nil =>
    intro pre h hp
    refine ev_up ?_
    have hlen : ¬ ((pre.length : Nat) : Int) < (l.length : Int) := by rw [h]; simp
    simp only [spec_TableOk.l0, if_neg hlen]
    have hv : Near0 l := by rw [h]; simpa using hp
    have := spec_table_l1 l hn.2 hv (l.length + 1) [0] 0 (few_zero hn.1) (by simp) rfl
    cases hgl : pre.getLast? <;> simpa [vGo] using this
  | cons c suf ih =>
    intro pre h hp
    have hlt : ((pre.length : Nat) : Int) < (l.length : Int) := by rw [h]; exact lt_mid pre suf c
    have hrd : rd_T112 l (pre.length : Int) = c := by rw [h]; exact rdT_mid pre suf c
    have hw : wrap64 ((pre.length : Int) + 1) = ((pre ++ [c]).length : Int) := wrap_snoc (s := suf) (by rw [← h]; omega)
    refine ev_up ?_
    simp only [spec_TableOk.l0, if_pos hlt, if_pos (Int.natCast_nonneg pre.length), hrd, l01In_eq, Option.bind_some, hw]
    by_cases h1 : 0 ≤ c.f0 ∧ c.f0 ≤ 9
    · by_cases h2 : 0 ≤ c.f1 ∧ c.f1 ≤ 9
      · have hi := ih (pre ++ [c]) (by simp [h]) (near_snoc hp ⟨h1.1, h1.2, h2⟩)
        rw [List.getLast?_concat] at hi
        rcases nil_or_snoc pre with rfl | ⟨pre', p, rfl⟩
        · simp only [decide_eq_true h1, decide_eq_true h2, if_true, if_neg (show ¬ (([] : List Cl).length : Int) > 0 by simp)]
          simpa [vGo, h1, h2] using hi
        · have hlen : ((pre' ++ [p]).length : Int) = (pre'.length : Int) + 1 := by simp
          rw [hlen] at hlt
          have hw2 : wrap64 (((pre' ++ [p]).length : Int) - 1) = (pre'.length : Int) := by rw [hlen]; unfold wrap64; omega
          have hrp : rd_T112 l (pre'.length : Int) = p := by rw [h, List.append_assoc]; exact rdT_mid pre' _ p
          simp only [decide_eq_true h1, decide_eq_true h2, if_true, if_pos (show ((pre' ++ [p]).length : Int) > 0 by rw [hlen]; omega), hw2, if_pos (Int.natCast_nonneg pre'.length), if_pos (show ((pre'.length : Nat) : Int) < (l.length : Int) by omega), hrp]
          rw [List.getLast?_concat]
          by_cases h3 : c.f1 < p.f1
          · simp only [if_pos h3]
            simpa [vGo, h3] using Ev.now false
          · by_cases h4 : c.f1 = p.f1
            · by_cases h5 : c.f0 ≤ p.f0
              · simp only [if_neg h3, if_pos h4, if_pos h5]
                simpa [vGo, h4, h5] using Ev.now false
              · simp only [if_neg h3, if_pos h4, if_neg h5]
                have e : (decide (c.f1 < p.f1 ∨ c.f1 = p.f1 ∧ c.f0 ≤ p.f0)) = false := decide_eq_false (by omega)
                simp only [vGo, decide_eq_true h1, decide_eq_true h2, e, Bool.not_false, Bool.true_and]
                exact hi
            · simp only [if_neg h3, if_neg h4]
              have e : (decide (c.f1 < p.f1 ∨ c.f1 = p.f1 ∧ c.f0 ≤ p.f0)) = false := decide_eq_false (by omega)
              simp only [vGo, decide_eq_true h1, decide_eq_true h2, e, Bool.not_false, Bool.true_and]
              exact hi
      · simp only [decide_eq_true h1, decide_eq_false h2, if_true, Bool.false_eq_true, if_false]
        have e : vGo pre.getLast? (c :: suf) = false := by cases pre.getLast? <;> simp only [vGo, decide_eq_false h2, Bool.and_false, Bool.false_and]
        rw [e]
        exact Ev.now _
    · simp only [decide_eq_false h1, Bool.false_eq_true, if_false]
      have e : vGo pre.getLast? (c :: suf) = false := by cases pre.getLast? <;> simp only [vGo, decide_eq_false h1, Bool.false_and]
      rw [e]
      exact Ev.now _
theorem impl_table_l0 (l : List Cl) (hn : 1 ≤ l.length ∧ l.length ≤ 6) : ∀ (suf pre : List Cl), l = pre ++ suf → Near0 pre →
    Ev (fun k => impl_TableOk.l0 k l l (l.length : Int) (pre.length : Int)) (vGo pre.getLast? suf && whole l (l.length + 1) [0] 0) := by
  intro suf
  induction suf with
  | nil =>
    intro pre h hp
    refine ev_up ?_
    have hlen : ¬ ((pre.length : Nat) : Int) < (l.length : Int) := by rw [h]; simp
    simp only [impl_TableOk.l0, if_neg hlen]
    have hv : Near0 l := by rw [h]; simpa using hp
    have := impl_table_l1 l hn.2 hv (l.length + 1) [0] 0 (few_zero hn.1) (by simp) rfl
    cases hgl : pre.getLast? <;> simpa [vGo] using this
  | cons c suf ih =>
    intro pre h hp
    have hlt : ((pre.length : Nat) : Int) < (l.length : Int) := by rw [h]; exact lt_mid pre suf c
    have hrd : rd_T112 l (pre.length : Int) = c := by rw [h]; exact rdT_mid pre suf c
    have hw : wrap64 ((pre.length : Int) + 1) = ((pre ++ [c]).length : Int) := wrap_snoc (s := suf) (by rw [← h]; omega)
    have hbad : ∀ r : Bool, r = false → Ev (fun k => impl_TableOk.j2 k l (pre.length : Int) l (l.length : Int) (pre.length : Int) true c.f0 c.f1) r := by
      rintro r rfl
      refine ev_up ?_
      simp only [impl_TableOk.j2, if_true]
      exact Ev.now _
    refine ev_up ?_
    simp only [impl_TableOk.l0, if_pos hlt, if_pos (Int.natCast_nonneg pre.length), hrd]
    by_cases h1 : 0 ≤ c.f0 ∧ c.f0 ≤ 9
    · by_cases h2 : 0 ≤ c.f1 ∧ c.f1 ≤ 9
      · have hi := ih (pre ++ [c]) (by simp [h]) (near_snoc hp ⟨h1.1, h1.2, h2⟩)
        rw [List.getLast?_concat] at hi
        simp only [if_neg (show ¬ c.f0 < 0 by omega), if_neg (show ¬ c.f0 > 9 by omega), if_neg (show ¬ c.f1 < 0 by omega), decide_eq_false (show ¬ c.f1 > 9 by omega)]
        refine ev_up ?_
        simp only [impl_TableOk.j2, Bool.false_eq_true, if_false, hw]
        rcases nil_or_snoc pre with rfl | ⟨pre', p, rfl⟩
        · simp only [if_neg (show ¬ (([] : List Cl).length : Int) > 0 by simp)]
          simpa [vGo, h1, h2] using hi
        · have hlen : ((pre' ++ [p]).length : Int) = (pre'.length : Int) + 1 := by simp
          rw [hlen] at hlt
          have hw2 : wrap64 (((pre' ++ [p]).length : Int) - 1) = (pre'.length : Int) := by rw [hlen]; unfold wrap64; omega
          have hrp : rd_T112 l (pre'.length : Int) = p := by rw [h, List.append_assoc]; exact rdT_mid pre' _ p
          simp only [if_pos (show ((pre' ++ [p]).length : Int) > 0 by rw [hlen]; omega), hw2, if_pos (Int.natCast_nonneg pre'.length), if_pos (show ((pre'.length : Nat) : Int) < (l.length : Int) by omega), hrp]
          rw [List.getLast?_concat]
          by_cases h3 : c.f1 < p.f1
          · simp only [if_pos h3]
            simpa [vGo, h3] using Ev.now false
          · by_cases h4 : c.f1 = p.f1
            · by_cases h5 : c.f0 ≤ p.f0
              · simp only [if_neg h3, if_pos h4, if_pos h5]
                simpa [vGo, h4, h5] using Ev.now false
              · simp only [if_neg h3, if_pos h4, if_neg h5]
                have e : (decide (c.f1 < p.f1 ∨ c.f1 = p.f1 ∧ c.f0 ≤ p.f0)) = false := decide_eq_false (by omega)
                simp only [vGo, decide_eq_true h1, decide_eq_true h2, e, Bool.not_false, Bool.true_and]
                exact hi
            · simp only [if_neg h3, if_neg h4]
              have e : (decide (c.f1 < p.f1 ∨ c.f1 = p.f1 ∧ c.f0 ≤ p.f0)) = false := decide_eq_false (by omega)
              simp only [vGo, decide_eq_true h1, decide_eq_true h2, e, Bool.not_false, Bool.true_and]
              exact hi
      · have e : vGo pre.getLast? (c :: suf) = false := by cases pre.getLast? <;> simp only [vGo, decide_eq_false h2, Bool.and_false, Bool.false_and]
        simp only [if_neg (show ¬ c.f0 < 0 by omega), if_neg (show ¬ c.f0 > 9 by omega)]
        by_cases h3 : c.f1 < 0
        · simp only [if_pos h3]
          exact hbad _ (by rw [e]; rfl)
        · simp only [if_neg h3, decide_eq_true (show c.f1 > 9 by omega)]
          exact hbad _ (by rw [e]; rfl)
    · have e : vGo pre.getLast? (c :: suf) = false := by cases pre.getLast? <;> simp only [vGo, decide_eq_false h1, Bool.false_and]
      by_cases h3 : c.f0 < 0
      · simp only [if_pos h3]
        exact hbad _ (by rw [e]; rfl)
      · simp only [if_neg h3, if_pos (show c.f0 > 9 by omega)]
        exact hbad _ (by rw [e]; rfl)
theorem spec_table (l : List Cl) : Ev (fun k => spec_TableOk.f k l) (tableB l) := by
  unfold spec_TableOk.f tableB
  simp only [l01In_eq, Option.bind_some]
  by_cases h : 1 ≤ l.length ∧ l.length ≤ 6
  · simp only [decide_eq_true h, decide_eq_true (show 1 ≤ (l.length : Int) ∧ (l.length : Int) ≤ 6 by omega), if_true, Bool.true_and]
    exact spec_table_l0 l h l [] rfl (fun c hc => by simp at hc)
  · simp only [decide_eq_false h, decide_eq_false (show ¬ (1 ≤ (l.length : Int) ∧ (l.length : Int) ≤ 6) by omega), Bool.false_eq_true, if_false, Bool.false_and]
    exact Ev.now _
theorem impl_table (l : List Cl) : Ev (fun k => impl_TableOk.f k l) (tableB l) := by
  unfold impl_TableOk.f tableB
  by_cases h1 : (l.length : Int) < 1
  · simp only [if_pos h1, decide_eq_false (show ¬ (1 ≤ l.length ∧ l.length ≤ 6) by omega), Bool.false_and]
    refine ev_up ?_
    simp only [impl_TableOk.j0, if_true]
    exact Ev.now _
  · simp only [if_neg h1]
    refine ev_up ?_
    by_cases h2 : l.length ≤ 6
    · simp only [impl_TableOk.j0, decide_eq_false (show ¬ (l.length : Int) > 6 by omega), Bool.false_eq_true, if_false, decide_eq_true (show 1 ≤ l.length ∧ l.length ≤ 6 by omega), Bool.true_and]
      exact impl_table_l0 l (by omega) l [] rfl (fun c hc => by simp at hc)
    · simp only [impl_TableOk.j0, decide_eq_true (show (l.length : Int) > 6 by omega), if_true, decide_eq_false (show ¬ (1 ≤ l.length ∧ l.length ≤ 6) by omega), Bool.false_and]
      exact Ev.now _

/-- A number in decimals. -/
def decB (u : Nat) : ByteArray := ⟨(Go.Lib.decDigits u).toArray⟩
def itoaB (n : Int) : ByteArray := ⟨(Go.Lib.itoa n).toArray⟩
theorem nDig_le : ∀ (d u : Nat), u < 10 ^ (d + 1) → Go.Lib.nDigits u ≤ d + 1
  | 0, u, h => by rw [Go.Lib.nDigits_small (by simpa using h)]; omega
  | d + 1, u, h => by
    by_cases hu : u < 10
    · rw [Go.Lib.nDigits_small hu]; omega
    · rw [Go.Lib.nDigits_big hu]
      have := nDig_le d (u / 10) (by rw [Nat.pow_succ] at h; omega)
      omega
theorem decB_size (u : Nat) : (decB u).size = Go.Lib.nDigits u := by
  show (Go.Lib.decDigits u).toArray.size = _
  rw [List.size_toArray, Go.Lib.decDigits_length]
theorem bytes_app (a b : List UInt8) : (⟨a.toArray⟩ : ByteArray) ++ ⟨b.toArray⟩ = ⟨(a ++ b).toArray⟩ := by
  apply ByteArray.ext
  rw [ByteArray.data_append]
  simp
theorem app_assocB (a b c : ByteArray) : a ++ b ++ c = a ++ (b ++ c) := by
  apply ByteArray.ext
  simp [ByteArray.data_append, Array.append_assoc]
theorem one_strB (n : Int) (u : Nat) (h : n = ((u : Nat) : Int)) : strOfNums [n] = ⟨[UInt8.ofNat u].toArray⟩ := by
  subst h
  simp [strOfNums]
theorem strOne_size (n : Int) : (strOfNums [n]).size = 1 := id rfl
theorem decB_small {u : Nat} (h : u < 10) : decB u = strOfNums [(48 + (u : Int))] := by
  rw [one_strB _ (48 + u) (by omega)]
  unfold decB
  rw [Go.Lib.decDigits, dif_pos h]
theorem decB_big {u : Nat} (h : ¬ u < 10) : decB u = decB (u / 10) ++ strOfNums [(48 + (u : Int) % 10)] := by
  rw [one_strB _ (48 + u % 10) (by omega)]
  unfold decB
  rw [bytes_app, Go.Lib.decDigits, dif_neg h]
theorem itoaB_pos {n : Int} (h : 0 ≤ n) : itoaB n = decB n.toNat := by
  unfold itoaB Go.Lib.itoa decB
  rw [if_neg (by omega)]
theorem itoaB_neg {n : Int} (h : n < 0) : itoaB n = (⟨#[45]⟩ : ByteArray) ++ decB n.natAbs := by
  unfold itoaB Go.Lib.itoa decB
  rw [if_pos h, show (⟨#[45]⟩ : ByteArray) = ⟨[45].toArray⟩ from rfl, bytes_app]
  rfl
theorem itoaB_size {n : Int} (h0 : -9223372036854775808 ≤ n) (h1 : n ≤ 9223372036854775807) : (itoaB n).size ≤ 20 := by
  by_cases h : 0 ≤ n
  · rw [itoaB_pos h, decB_size]
    have := nDig_le 18 n.toNat (by omega)
    omega
  · rw [itoaB_neg (by omega), ByteArray.size_append, decB_size]
    have := nDig_le 18 n.natAbs (by omega)
    show 1 + _ ≤ 20
    omega
theorem spec_fmt_l0 : ∀ (u : Nat) (x : Int) (acc : ByteArray), x = u → u < 10 ^ 19 → acc.size + Go.Lib.nDigits u ≤ 40 → Ev (fun k => spec_FormatInt.l0 k x acc) (decB u ++ acc) := by
  intro u
  induction u using Nat.strongRecOn with
  | _ u ih =>
    intro x acc hx hu hs
    subst hx
    refine ev_up ?_
    have h9 : (10 : Int) ^ 19 = 10000000000000000000 := by decide
    by_cases h : u < 10
    · have hw : (wrap64 (48 + (u : Int))) % 256 = 48 + (u : Int) := by rw [pw_wrap (by omega) (by omega)]; omega
      have hn := Go.Lib.nDigits_small h
      simp only [spec_FormatInt.l0, if_neg (show ¬ ((u : Int) > 9) by omega), hw, Option.bind_some, strOne_size, if_pos (show 1 + acc.size ≤ 9223372036854775807 by omega)]
      rw [decB_small h]
      exact Ev.now _
    · have ht : Int.tmod (u : Int) 10 = (u : Int) % 10 := Int.tmod_eq_emod_of_nonneg (by omega)
      have hq : Int.tdiv (u : Int) 10 = (u : Int) / 10 := Int.tdiv_eq_ediv_of_nonneg (by omega)
      have hw : (wrap64 (48 + (u : Int) % 10)) % 256 = 48 + (u : Int) % 10 := by rw [pw_wrap (by omega) (by omega)]; omega
      have hw2 : wrap64 ((u : Int) / 10) = ((u / 10 : Nat) : Int) := by rw [pw_wrap (by omega) (by omega)]; omega
      have hn := Go.Lib.nDigits_big h
      simp only [spec_FormatInt.l0, if_pos (show ((u : Int) > 9) by omega), ht, hq, hw, hw2, Option.bind_some, strOne_size, if_pos (show 1 + acc.size ≤ 9223372036854775807 by omega)]
      rw [decB_big h, app_assocB]
      exact ih (u / 10) (by omega) _ _ rfl (by omega) (by rw [ByteArray.size_append, strOne_size]; omega)
theorem spec_fmtint {n : Int} (h0 : -9223372036854775808 ≤ n) (h1 : n ≤ 9223372036854775807) : Ev (fun k => spec_FormatInt.f k n) (itoaB n) := by
  by_cases hn : 0 ≤ n
  · refine ev_up ?_
    simp only [spec_FormatInt.f, if_neg (show ¬ n < 0 by omega)]
    rw [itoaB_pos hn]
    have := spec_fmt_l0 n.toNat n ⟨#[]⟩ (by omega) (by omega) (by
      have := nDig_le 18 n.toNat (by omega)
      show 0 + _ ≤ 40
      omega)
    rw [show decB n.toNat ++ (⟨#[]⟩ : ByteArray) = decB n.toNat from by apply ByteArray.ext; simp [ByteArray.data_append]] at this
    exact this
  · have key : ∀ (u : Nat) (n : Int), n = -(u : Int) → 1 ≤ u → u ≤ 9223372036854775808 → Ev (fun k => spec_FormatInt.f k n) ((⟨#[45]⟩ : ByteArray) ++ decB u) := by
      intro u
      induction u using Nat.strongRecOn with
      | _ u ih =>
        intro n hx h1 h2
        subst hx
        refine ev_up ?_
        have hq : Int.tdiv (-(u : Int)) 10 = -((u / 10 : Nat) : Int) := by rw [Int.neg_tdiv, Int.tdiv_eq_ediv_of_nonneg (by omega)]; omega
        have ht : Int.tmod (-(u : Int)) 10 = -((u : Int) % 10) := by rw [Int.neg_tmod, Int.tmod_eq_emod_of_nonneg (by omega)]
        have hw2 : wrap64 (-((u / 10 : Nat) : Int)) = -((u / 10 : Nat) : Int) := pw_wrap (by omega) (by omega)
        by_cases h : u < 10
        · have hw : (wrap64 (48 - -(u : Int))) % 256 = 48 + (u : Int) := by rw [pw_wrap (by omega) (by omega)]; omega
          simp only [spec_FormatInt.f, if_pos (show -(u : Int) < 0 by omega), hq, hw2, hw, if_pos (show -((u / 10 : Nat) : Int) = 0 by omega), Option.bind_some, strOne_size, if_pos (show 1 + 1 ≤ 9223372036854775807 by omega)]
          rw [decB_small h]
          exact Ev.now _
        · have hw : (wrap64 (48 - -((u : Int) % 10))) % 256 = 48 + (u : Int) % 10 := by rw [pw_wrap (by omega) (by omega)]; omega
          simp only [spec_FormatInt.f, if_pos (show -(u : Int) < 0 by omega), hq, ht, hw2, hw, if_neg (show ¬ -((u / 10 : Nat) : Int) = 0 by omega)]
          refine Ev.bind (ih (u / 10) (by omega) _ rfl (by omega) (by omega)) ?_
          have hz : ((⟨#[45]⟩ : ByteArray) ++ decB (u / 10)).size ≤ 20 := by
            rw [ByteArray.size_append, decB_size]
            have := nDig_le 18 (u / 10) (by omega)
            show 1 + _ ≤ 20
            omega
          simp only [Option.bind_some, strOne_size, if_pos (show ((⟨#[45]⟩ : ByteArray) ++ decB (u / 10)).size + 1 ≤ 9223372036854775807 by omega)]
          rw [decB_big h, ← app_assocB]
          exact Ev.now _
    rw [itoaB_neg (by omega)]
    exact key n.natAbs n (by omega) (by omega) (by omega)
theorem impl_fmtint {n : Int} (h0 : -9223372036854775808 ≤ n) (h1 : n ≤ 9223372036854775807) : impl_FormatInt.f n = some (itoaB n) := by
  unfold impl_FormatInt.f strconv_Itoa.f
  rw [if_pos ⟨h0, h1⟩]
  rfl
theorem i64_wf {x : Int} (h : (Lit.int .i64 x).wf = true) : -9223372036854775808 ≤ x ∧ x ≤ 9223372036854775807 := pw_wf h

def joinOf (l : List ByteArray) (sep : ByteArray) : ByteArray := ⟨(joinB l sep).toArray⟩
def tot (l : List ByteArray) (sep : ByteArray) : Nat := match l with
  | [] => 0
  | x :: xs => x.size + sep.size + tot xs sep
theorem tot_append (sep : ByteArray) : ∀ (a b : List ByteArray), tot (a ++ b) sep = tot a sep + tot b sep
  | [], b => by simp [tot]
  | x :: a, b => by simp only [List.cons_append, tot, tot_append sep a b]; omega
theorem join_two (sep a : List UInt8) (xs : List (List UInt8)) (h : xs ≠ []) : Go.Lib.join (a :: xs) sep = a ++ sep ++ Go.Lib.join xs sep := by
  cases xs with
  | nil => exact absurd rfl h
  | cons b t => simp [Go.Lib.join, List.intercalate]
theorem join_snoc (sep x : List UInt8) : ∀ (xs : List (List UInt8)), xs ≠ [] → Go.Lib.join (xs ++ [x]) sep = Go.Lib.join xs sep ++ sep ++ x
  | [], h => absurd rfl h
  | [a], _ => by simp [Go.Lib.join, List.intercalate]
  | a :: b :: t, _ => by
    rw [List.cons_append, join_two sep a _ (by simp), join_snoc sep x (b :: t) (by simp), join_two sep a (b :: t) (by simp)]
    simp [List.append_assoc]
theorem bytes_self (x : ByteArray) : (⟨x.data.toList.toArray⟩ : ByteArray) = x := by
  apply ByteArray.ext
  simp
theorem joinOf_nil (sep : ByteArray) : joinOf [] sep = ⟨#[]⟩ := by simp [joinOf, joinB, Go.Lib.join, List.intercalate]
theorem joinOf_one (x sep : ByteArray) : joinOf [x] sep = x := by
  simp [joinOf, joinB, Go.Lib.join, List.intercalate]
theorem joinOf_snoc (l : List ByteArray) (x sep : ByteArray) (h : l ≠ []) : joinOf (l ++ [x]) sep = joinOf l sep ++ sep ++ x := by
  unfold joinOf joinB
  rw [List.map_append, List.map_cons, List.map_nil, join_snoc _ _ _ (by simpa using h), ← bytes_app, ← bytes_app, bytes_self, bytes_self]
theorem joinOf_size (sep : ByteArray) : ∀ (l : List ByteArray), (joinOf l sep).size ≤ tot l sep
  | [] => by rw [joinOf_nil]; exact Nat.zero_le _
  | [x] => by rw [joinOf_one]; simp only [tot]; omega
  | x :: y :: l => by
    have h : joinOf (x :: y :: l) sep = x ++ sep ++ joinOf (y :: l) sep := by
      unfold joinOf joinB
      rw [List.map_cons, join_two _ _ _ (by simp), ← bytes_app, ← bytes_app, bytes_self, bytes_self]
    rw [h, ByteArray.size_append, ByteArray.size_append]
    have := joinOf_size sep (y :: l)
    rw [tot]
    omega
theorem tot_len (sep : ByteArray) (h : 1 ≤ sep.size) : ∀ (l : List ByteArray), l.length ≤ tot l sep
  | [] => by simp [tot]
  | x :: l => by
    have := tot_len sep h l
    simp only [List.length_cons, tot]
    omega
theorem rdOf_mid (d : ByteArray) (pre suf : List ByteArray) (x : ByteArray) : rdOf d (pre ++ x :: suf) (pre.length : Int) = x := by
  simp [rdOf, List.getD]
theorem spec_join_l0 (sep : ByteArray) (l : List ByteArray) (hl : l.length ≤ 1000000000000) (ht : tot l sep ≤ 1000000000000) : ∀ (suf pre : List ByteArray), l = pre ++ suf → Ev (fun k => spec_Join.l0 k sep (joinOf pre sep) l (l.length : Int) (pre.length : Int)) (joinOf l sep)
  | [], pre, e => by
    refine ev_up ?_
    have e2 : l = pre := by simpa using e
    subst e2
    simp only [spec_Join.l0, if_neg (show ¬ ((l.length : Int) < l.length) by omega)]
    exact Ev.now _
  | x :: suf, pre, e => by
    refine ev_up ?_
    have hlen : l.length = pre.length + suf.length + 1 := by rw [e]; simp; omega
    have htt : tot l sep = tot pre sep + (x.size + sep.size + tot suf sep) := by rw [e, tot_append]; simp only [tot]
    have hs := joinOf_size sep pre
    have hx : rdOf ByteArray.empty l (pre.length : Int) = x := by rw [e]; exact rdOf_mid _ _ _ _
    have hw : wrap64 ((pre.length : Int) + 1) = ((pre ++ [x]).length : Int) := by rw [pw_wrap (by omega) (by omega)]; simp
    have ih := spec_join_l0 sep l hl ht suf (pre ++ [x]) (by simp [e])
    simp only [spec_Join.l0, if_pos (show ((pre.length : Int) < l.length) by omega), if_pos (show (0 ≤ (pre.length : Int)) by omega), hx, hw]
    by_cases hp : pre = []
    · subst hp
      rw [List.nil_append, joinOf_one] at ih
      have hz : (joinOf [] sep).size = 0 := by rw [joinOf_nil]; rfl
      refine Ev.congr (f := fun k => _) (fun k => (if_neg (show ¬ (((([] : List ByteArray).length : Nat) : Int) > 0) by simp)).trans (if_pos (by omega))) ?_
      rw [joinOf_nil, show (⟨#[]⟩ : ByteArray) ++ x = x from by apply ByteArray.ext; simp [ByteArray.data_append]]
      exact ih
    · have hpl : 0 < pre.length := List.length_pos_iff.2 hp
      rw [joinOf_snoc _ _ _ hp] at ih
      refine Ev.congr (f := fun k => _) (fun k => ((if_pos (show (pre.length : Int) > 0 by omega)).trans (if_pos (by omega))).trans (if_pos (by rw [ByteArray.size_append]; omega))) ?_
      exact ih
theorem spec_join (sep : ByteArray) (l : List ByteArray) (hl : l.length ≤ 1000000000000) (ht : tot l sep ≤ 1000000000000) : Ev (fun k => spec_Join.f k l sep) (joinOf l sep) := by
  unfold spec_Join.f
  have := spec_join_l0 sep l hl ht l [] rfl
  rw [joinOf_nil] at this
  exact this
theorem impl_join (sep : ByteArray) (l : List ByteArray) (hl : l.length ≤ 1000000000000) (ht : tot l sep ≤ 1000000000000) : impl_Join.f l sep = some (joinOf l sep) := by
  unfold impl_Join.f strings_Join.f
  have hs : (joinB l sep).length ≤ tot l sep := by
    have := joinOf_size sep l
    exact this
  rw [if_pos ⟨by omega, by omega⟩]
  rfl

def cellB (c : Cl) : ByteArray := itoaB c.f0 ++ (⟨#[44]⟩ : ByteArray) ++ itoaB c.f1
theorem cellB_bd {c : Cl} (h : 0 ≤ c.f0 ∧ c.f0 ≤ 9 ∧ 0 ≤ c.f1 ∧ c.f1 ≤ 9) : (itoaB c.f0).size ≤ 20 ∧ (itoaB c.f1).size ≤ 20 ∧ (itoaB c.f0 ++ (⟨#[44]⟩ : ByteArray)).size + (itoaB c.f1).size ≤ 9223372036854775807 ∧ (cellB c).size ≤ 41 := by
  have za := itoaB_size (n := c.f0) (by omega) (by omega)
  have zb := itoaB_size (n := c.f1) (by omega) (by omega)
  have e : (⟨#[44]⟩ : ByteArray).size = 1 := rfl
  refine ⟨za, zb, ?_, ?_⟩
  · rw [ByteArray.size_append, e]
    omega
  · unfold cellB
    rw [ByteArray.size_append, ByteArray.size_append, e]
    omega
theorem tot_cells (sep : ByteArray) (hs : sep.size = 1) : ∀ (l : List Cl), Near0 l → tot (l.map cellB) sep ≤ 42 * l.length
  | [], _ => by simp [tot]
  | x :: l, h => by
    have h1 := tot_cells sep hs l (fun y hy => h y (List.mem_cons_of_mem _ hy))
    have h3 := (cellB_bd (h x List.mem_cons_self)).2.2.2
    simp only [List.map_cons, tot, List.length_cons]
    omega
def tableT (l : List Cl) : ByteArray := if tableB l = true then joinOf (l.map cellB) ⟨#[32]⟩ else ⟨#[]⟩
theorem tableT_size (l : List Cl) : (tableT l).size ≤ 252 := by
  unfold tableT
  by_cases h : tableB l = true
  · obtain ⟨h6, hn, _, _⟩ := tableB_side h
    rw [if_pos h]
    have := joinOf_size ⟨#[32]⟩ (l.map cellB)
    have := tot_cells ⟨#[32]⟩ rfl l hn
    omega
  · rw [if_neg h]
    exact Nat.zero_le _
theorem spec_fmttable_l0 (l : List Cl) (hl : l.length ≤ 6) (h : Near0 l) : ∀ (suf pre : List Cl), l = pre ++ suf → Ev (fun k => spec_FormatTable.l0 k (pre.map cellB) l (l.length : Int) (pre.length : Int)) (joinOf (l.map cellB) ⟨#[32]⟩)
  | [], pre, e => by
    refine ev_up ?_
    have e2 : l = pre := by simpa using e
    subst e2
    have := tot_cells ⟨#[32]⟩ rfl l h
    simp only [spec_FormatTable.l0, if_neg (show ¬ ((l.length : Int) < l.length) by omega)]
    exact Ev.bind (spec_join _ (l.map cellB) (by rw [List.length_map]; omega) (by omega)) (Ev.now _)
  | x :: suf, pre, e => by
    refine ev_up ?_
    have hlen : l.length = pre.length + suf.length + 1 := by rw [e]; simp; omega
    have hx : rd_T112 l (pre.length : Int) = x := by rw [e]; exact rdT_mid _ _ _
    have hxm := h x (by rw [e]; simp)
    have hb := cellB_bd hxm
    have hw : wrap64 ((pre.length : Int) + 1) = ((pre ++ [x]).length : Int) := by rw [pw_wrap (by omega) (by omega)]; simp
    have ih := spec_fmttable_l0 l hl h suf (pre ++ [x]) (by simp [e])
    simp only [spec_FormatTable.l0, if_pos (show ((pre.length : Int) < l.length) by omega), if_pos (show (0 ≤ (pre.length : Int)) by omega), hx, hw]
    refine Ev.bind (spec_fmtint (n := x.f0) (by omega) (by omega)) ?_
    refine Ev.congr (f := fun k => _) (fun k => if_pos (by omega)) ?_
    refine Ev.bind (spec_fmtint (n := x.f1) (by omega) (by omega)) ?_
    refine Ev.congr (f := fun k => _) (fun k => (if_pos hb.2.2.1).trans (if_pos (by rw [List.length_map]; omega))) ?_
    rw [List.map_append] at ih
    exact ih
theorem impl_fmttable_l0 (l : List Cl) (hl : l.length ≤ 6) (h : Near0 l) : ∀ (suf pre : List Cl), l = pre ++ suf → Ev (fun k => impl_FormatTable.l0 k (pre.map cellB) l (l.length : Int) (pre.length : Int)) (joinOf (l.map cellB) ⟨#[32]⟩)
  | [], pre, e => by
    refine ev_up ?_
    have e2 : l = pre := by simpa using e
    subst e2
    have := tot_cells ⟨#[32]⟩ rfl l h
    simp only [impl_FormatTable.l0, if_neg (show ¬ ((l.length : Int) < l.length) by omega), impl_join _ (l.map cellB) (by rw [List.length_map]; omega) (show tot (l.map cellB) ⟨#[32]⟩ ≤ 1000000000000 by omega), Option.bind_some]
    exact Ev.now _
  | x :: suf, pre, e => by
    refine ev_up ?_
    have hlen : l.length = pre.length + suf.length + 1 := by rw [e]; simp; omega
    have hx : rd_T112 l (pre.length : Int) = x := by rw [e]; exact rdT_mid _ _ _
    have hxm := h x (by rw [e]; simp)
    have hb := cellB_bd hxm
    have hw : wrap64 ((pre.length : Int) + 1) = ((pre ++ [x]).length : Int) := by rw [pw_wrap (by omega) (by omega)]; simp
    have ih := impl_fmttable_l0 l hl h suf (pre ++ [x]) (by simp [e])
    simp only [impl_FormatTable.l0, if_pos (show ((pre.length : Int) < l.length) by omega), if_pos (show (0 ≤ (pre.length : Int)) by omega), hx, hw, impl_fmtint (n := x.f0) (by omega) (by omega), impl_fmtint (n := x.f1) (by omega) (by omega), Option.bind_some]
    refine Ev.congr (f := fun k => _) (fun k => ((if_pos (by omega)).trans (if_pos hb.2.2.1)).trans (if_pos (by rw [List.length_map]; omega))) ?_
    rw [List.map_append] at ih
    exact ih
theorem spec_fmttable (l : List Cl) : Ev (fun k => spec_FormatTable.f k l) (tableT l) := by
  unfold spec_FormatTable.f tableT
  refine Ev.bind (spec_table l) ?_
  by_cases h : tableB l = true
  · obtain ⟨h6, hn, _, _⟩ := tableB_side h
    simp only [if_pos h]
    exact spec_fmttable_l0 l h6.2 hn l [] rfl
  · simp only [if_neg h]
    exact Ev.now _
theorem impl_fmttable (l : List Cl) : Ev (fun k => impl_FormatTable.f k l) (tableT l) := by
  unfold impl_FormatTable.f tableT
  refine Ev.bind (impl_table l) ?_
  by_cases h : tableB l = true
  · obtain ⟨h6, hn, _, _⟩ := tableB_side h
    simp only [if_pos h]
    exact impl_fmttable_l0 l h6.2 hn l [] rfl
  · simp only [if_neg h]
    exact Ev.now _

theorem FnExactFormatTable : laws_FnExactFormatTable.Pure := by
  intro l hm _
  apply Ev.rounds
  unfold laws_FnExactFormatTable.f
  by_cases hl : l.length ≤ 1048576
  · simp only [szCellS_eq l hm, if_pos hl, Option.bind_some]
    have hc : (l.map conv).length ≤ 1048576 := by simpa using hl
    refine Ev.congr (f := fun k => _) (fun k => if_neg (by omega)) ?_
    refine Ev.bind (toCellS_ev l hl) ?_
    refine Ev.bind (spec_fmttable _) ?_
    refine Ev.bind (toCellS_ev l hl) ?_
    refine Ev.bind (impl_fmttable _) ?_
    simp only [if_true]
    refine Ev.bind (toCellS_ev l hl) ?_
    refine Ev.bind (eqCellS_ev _ hc) ?_
    simp only [if_true]
    exact Ev.now _
  · simp only [szCellS_eq l hm, if_neg hl, Option.bind_some]
    exact Ev.now _

end Go.Proofs.YtnoopmbhdlfkbaaDoor.Pure
