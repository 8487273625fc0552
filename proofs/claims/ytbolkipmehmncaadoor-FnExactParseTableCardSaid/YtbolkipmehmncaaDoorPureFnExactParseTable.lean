/- The program's ParseTable returns what the reference's returns, for all arguments: no condition. -/
import Derived.Test.YtbolkipmehmncaaDoorSayFnExactParseTable
namespace Go.Proofs.YtbolkipmehmncaaDoor.Pure
open Go.RowKit Go.Proofs.YtbolkipmehmncaaDoor.S Go.Proofs.YtbolkipmehmncaaDoorW.PrintWords Go.Proofs.YtbolkipmehmncaaDoorW.PrintLast
set_option linter.unusedVariables false
set_option linter.unusedSimpArgs false

theorem ev_up {α : Type} {g : Nat → Option α} {r : α} (h : Ev (fun k => g (k + 1)) r) : Ev g r := Ev.step (fun _ => rfl) h
theorem pw_wrap {a : Int} (h0 : -9223372036854775808 ≤ a) (h1 : a ≤ 9223372036854775807) : wrap64 a = a := by
  unfold wrap64
  omega

theorem l01In_eq (a b c : Int) : spec_l01In.f a b c = some (decide (b ≤ a ∧ a ≤ c)) := by
  unfold spec_l01In.f
  split
  · rename_i h
    by_cases h2 : a ≤ c
    · rw [decide_eq_true h2, decide_eq_true ⟨h, h2⟩]
    · rw [decide_eq_false h2, decide_eq_false (fun h => h2 h.2)]
  · rename_i h
    rw [decide_eq_false (fun h2 => h h2.1)]

/-! Lists without a number twice; what is met from a place. -/
theorem nodup_len (n : Nat) : ∀ l : List Int, l.Nodup → (∀ x ∈ l, 0 ≤ x ∧ x < n) → l.length ≤ n := by
  induction n with
  | zero =>
    intro l _ h
    cases l with
    | nil => simp
    | cons x l => have := h x (by simp); omega
  | succ n ih =>
    intro l hn h
    have h2 := ih (l.filter (fun x => x != (n : Int))) (hn.filter _) (fun x hx => by
      have h3 := List.mem_filter.1 hx
      have h4 := h x h3.1
      have h5 : x ≠ (n : Int) := by simpa using h3.2
      omega)
    have h3 : l.length ≤ (l.filter (fun x => x != (n : Int))).length + 1 := by
      clear h h2 ih
      induction l with
      | nil => simp
      | cons y l ihl =>
        have hn2 := List.nodup_cons.1 hn
        by_cases hy : y = (n : Int)
        · have : l.filter (fun x => x != (n : Int)) = l := List.filter_eq_self.2 (fun x hx => by
            have : x ≠ (n : Int) := fun e => hn2.1 (by rw [hy, ← e]; exact hx)
            simpa using this)
          simp [hy, this]
        · have := ihl hn2.2
          simp [hy]
          omega
    omega
def push (q : List Int) (k : Int) : List Int := if 0 ≤ k ∧ k ∉ q then q ++ [k] else q
def pushAll (q : List Int) (ks : List Int) : List Int := ks.foldl push q
/-- Distinct numbers below n. -/
def Few (n : Nat) (q : List Int) : Prop := q.Nodup ∧ ∀ x ∈ q, 0 ≤ x ∧ x < (n : Int)
theorem few_push {n : Nat} {q : List Int} {k : Int} (h : Few n q) (hk : k < n) : Few n (push q k) := by
  unfold push
  split
  · rename_i h2
    refine ⟨?_, fun x hx => ?_⟩
    · rw [List.nodup_append]
      refine ⟨h.1, by simp, ?_⟩
      intro a ha b hb
      simp at hb
      subst hb
      exact fun e => h2.2 (e ▸ ha)
    · rcases List.mem_append.1 hx with hx | hx
      · exact h.2 x hx
      · simp at hx; subst hx; exact ⟨h2.1, hk⟩
  · exact h
theorem push_len (q : List Int) (k : Int) : q.length ≤ (push q k).length := by unfold push; split <;> simp
theorem few_pushAll {n : Nat} : ∀ (ks q : List Int), Few n q → (∀ k ∈ ks, k < n) → Few n (pushAll q ks) ∧ q.length ≤ (pushAll q ks).length
  | [], q, h, _ => ⟨h, Nat.le_refl _⟩
  | k :: ks, q, h, hk => by
    have h1 := few_push h (hk k (by simp))
    have h2 := few_pushAll ks (push q k) h1 (fun x hx => hk x (by simp [hx]))
    exact ⟨h2.1, Nat.le_trans (push_len q k) h2.2⟩
theorem few_len {n : Nat} {q : List Int} (h : Few n q) : q.length ≤ n := nodup_len n q h.1 h.2
/-- The queue behind the places from 'at_' on. -/
def bfs (nb : Int → List Int) : Nat → List Int → Nat → List Int
  | 0, q, _ => q
  | f + 1, q, i => if h : i < q.length then bfs nb f (pushAll q (nb q[i])) (i + 1) else q
theorem bfs_done (nb : Int → List Int) (f : Nat) (q : List Int) (i : Nat) (h : ¬ i < q.length) : bfs nb f q i = q := by
  cases f with
  | zero => rfl
  | succ f => rw [bfs, dif_neg h]
/-! Small words on lists, read at a place. -/
theorem wrap_snoc {α : Type} {p s : List α} {x : α} (h : (p ++ x :: s).length ≤ 4611686018427387904) : wrap64 ((p.length : Int) + 1) = ((p ++ [x]).length : Int) := by
  simp at h ⊢
  unfold wrap64
  omega
theorem lt_mid {α : Type} (p s : List α) (x : α) : ((p.length : Nat) : Int) < ((p ++ x :: s).length : Int) := by simp; omega
theorem nlt_end {α : Type} (p : List α) : ¬ ((p.length : Nat) : Int) < ((p ++ []).length : Int) := by simp
theorem rd_mid (p s : List Int) (x : Int) : rd (p ++ x :: s) (p.length : Int) = x := by simp [rd, List.getD]
theorem nil_or_snoc {α : Type} (l : List α) : l = [] ∨ ∃ p x, l = p ++ [x] := by
  rcases List.eq_nil_or_concat l with h | ⟨p, x, h⟩
  · exact .inl h
  · exact .inr ⟨p, x, by rw [h]; simp⟩

theorem spec_has_l0 (l : List Int) (hl : l.length ≤ 4611686018427387904) (x : Int) : ∀ (suf pre : List Int), l = pre ++ suf →
    Ev (fun k => spec_l02Has.l0 k x l (l.length : Int) (pre.length : Int)) (decide (x ∈ suf)) := by
  intro suf
  induction suf with
  | nil =>
    intro pre h
    subst h
    refine ev_up ?_
    simp only [spec_l02Has.l0, if_neg (nlt_end pre)]
    simpa using Ev.now false
  | cons c suf ih =>
    intro pre h
    have := ih (pre ++ [c]) (by simp [h])
    subst h
    refine ev_up ?_
    by_cases hc : c = x
    · simp only [spec_l02Has.l0, if_pos (lt_mid pre suf c), if_pos (Int.natCast_nonneg pre.length), rd_mid, if_pos hc]
      simpa [hc] using Ev.now true
    · simp only [spec_l02Has.l0, if_pos (lt_mid pre suf c), if_pos (Int.natCast_nonneg pre.length), rd_mid, if_neg hc, wrap_snoc hl]
      rw [show decide (x ∈ c :: suf) = decide (x ∈ suf) by simp [Ne.symm hc]]
      exact this
theorem spec_has (l : List Int) (hl : l.length ≤ 4611686018427387904) (x : Int) : Ev (fun k => spec_l02Has.f k l x) (decide (x ∈ l)) := spec_has_l0 l hl x l [] rfl

/-- The place of the first x, or -1. -/
def idxGo (x : Int) : List Int → Int → Int
  | [], _ => -1
  | c :: cs, i => if c = x then i else idxGo x cs (i + 1)
theorem impl_index_l0 (l : List Int) (hl : l.length ≤ 4611686018427387904) (x : Int) : ∀ (suf pre : List Int), l = pre ++ suf →
    Ev (fun k => slices_Index_int_int.l0 k l x (l.length : Int) (pre.length : Int)) (idxGo x suf pre.length) := by
  intro suf
  induction suf with
  | nil =>
    intro pre h
    subst h
    refine ev_up ?_
    simp only [slices_Index_int_int.l0, if_neg (nlt_end pre)]
    exact Ev.now _
  | cons c suf ih =>
    intro pre h
    have := ih (pre ++ [c]) (by simp [h])
    subst h
    refine ev_up ?_
    by_cases hc : c = x
    · simp only [slices_Index_int_int.l0, if_pos (lt_mid pre suf c), if_pos (Int.natCast_nonneg pre.length), rd_mid, if_pos hc.symm]
      rw [idxGo, if_pos hc]
      exact Ev.now _
    · simp only [slices_Index_int_int.l0, if_pos (lt_mid pre suf c), if_pos (Int.natCast_nonneg pre.length), rd_mid, if_neg (Ne.symm hc), wrap_snoc hl]
      rw [idxGo, if_neg hc, show (pre.length : Int) + 1 = ((pre ++ [c]).length : Int) by simp]
      exact this
theorem impl_index (l : List Int) (hl : l.length ≤ 4611686018427387904) (x : Int) : Ev (fun k => slices_Index_int_int.f k l x) (idxGo x l 0) := impl_index_l0 l hl x l [] rfl
theorem idx_mem (x : Int) : ∀ (l : List Int) (i : Int), 0 ≤ i → (decide (idxGo x l i ≥ 0) = decide (x ∈ l))
  | [], i, _ => by simp [idxGo]
  | c :: cs, i, h => by
    by_cases hc : c = x
    · simp [idxGo, hc, h]
    · rw [idxGo, if_neg hc, idx_mem x cs (i + 1) (by omega)]
      simp [Ne.symm hc]
theorem impl_contains (l : List Int) (hl : l.length ≤ 4611686018427387904) (x : Int) : Ev (fun k => slices_Contains_int_int.f k l x) (decide (x ∈ l)) := by
  unfold slices_Contains_int_int.f
  refine Ev.bind (impl_index l hl x) ?_
  simp only [idx_mem x l 0 (Int.le_refl 0)]
  exact Ev.now _

/-! Cells of a table: the law's, and the program's. -/
theorem rdT_mid (p s : List S81) (x : S81) : rd_T81 (p ++ x :: s) (p.length : Int) = x := by simp [rd_T81, List.getD]
abbrev Cl := S81
theorem eqCell_eq (a b c d : Int) : laws_eqCell.f a b c d = some (decide (a = c ∧ b = d)) := by
  unfold laws_eqCell.f
  by_cases h : a = c
  · by_cases h2 : b = d
    · simp [h, h2]
    · simp [h, h2]
  · simp [h]
theorem eqCellS_l0 (l : List Cl) (hl : l.length ≤ 1048576) : ∀ (suf pre : List Cl), l = pre ++ suf → Ev (fun k => laws_eqCellS.l0 k l l (pre.length : Int)) true := by
  intro suf
  induction suf with
  | nil =>
    intro pre h
    subst h
    refine ⟨1, fun k hk => ?_⟩
    obtain ⟨k, rfl⟩ : ∃ m, k = m + 1 := ⟨k - 1, by omega⟩
    simp only [laws_eqCellS.l0]
    rw [if_neg (nlt_end pre)]
  | cons c suf ih =>
    intro pre h
    have := ih (pre ++ [c]) (by simp [h])
    subst h
    refine Ev.step (fun k => ?_) this
    simp only [laws_eqCellS.l0]
    rw [if_pos (lt_mid pre suf c), if_pos (Int.natCast_nonneg _), if_pos (lt_mid pre suf c), rdT_mid, eqCell_eq]
    simp only [Option.bind_some, and_self, decide_true, if_true]
    rw [wrap_snoc (s := suf) (by simp at hl ⊢; omega)]
theorem eqCellS_ev (l : List Cl) (hl : l.length ≤ 1048576) : Ev (fun k => laws_eqCellS.f k l l) true := by
  have := eqCellS_l0 l hl l [] rfl
  refine Ev.congr (fun k => ?_) this
  unfold laws_eqCellS.f
  rw [if_pos rfl]
  simp
/-- The place of the first cell with these coordinates, or -1. -/
def cellGo (x y : Int) : List Cl → Int → Int
  | [], _ => -1
  | c :: cs, i => if c.f0 = x ∧ c.f1 = y then i else cellGo x y cs (i + 1)
def cellAt (l : List Cl) (x y : Int) : Int := cellGo x y l 0
theorem spec_CellAt_l0 (l : List Cl) (hl : l.length ≤ 1048576) (x y : Int) : ∀ (suf pre : List Cl), l = pre ++ suf →
    Ev (fun k => spec_CellAt.l0 k x y l (l.length : Int) (pre.length : Int)) (cellGo x y suf pre.length) := by
  intro suf
  induction suf with
  | nil =>
    intro pre h
    subst h
    refine ⟨1, fun k hk => ?_⟩
    obtain ⟨k, rfl⟩ : ∃ m, k = m + 1 := ⟨k - 1, by omega⟩
    simp only [spec_CellAt.l0]
    rw [if_neg (nlt_end pre)]
    rfl
  | cons c suf ih =>
    intro pre h
    have := ih (pre ++ [c]) (by simp [h])
    subst h
    by_cases hc : c.f0 = x ∧ c.f1 = y
    · refine Ev.step (f := fun _ => some ((pre.length : Nat) : Int)) (fun k => ?_) (by rw [cellGo, if_pos hc]; exact Ev.now _)
      simp only [spec_CellAt.l0]
      rw [if_pos (lt_mid pre suf c), if_pos (Int.natCast_nonneg _), if_pos (lt_mid pre suf c), rdT_mid, if_pos hc.1, if_pos hc.2]
    · rw [cellGo, if_neg hc]
      rw [show ((pre ++ [c]).length : Int) = (pre.length : Int) + 1 by simp] at this
      refine Ev.step (fun k => ?_) this
      simp only [spec_CellAt.l0]
      rw [if_pos (lt_mid pre suf c), if_pos (Int.natCast_nonneg _), if_pos (lt_mid pre suf c), rdT_mid, wrap_snoc (x := c) (s := suf) (by simp at hl ⊢; omega)]
      by_cases h1 : c.f0 = x
      · rw [if_pos h1, if_neg (fun h2 => hc ⟨h1, h2⟩)]; simp
      · rw [if_neg h1]; simp
theorem spec_CellAt_ev (l : List Cl) (hl : l.length ≤ 1048576) (x y : Int) : Ev (fun k => spec_CellAt.f k l x y) (cellAt l x y) := spec_CellAt_l0 l hl x y l [] rfl
theorem impl_Index_l0 (l : List Cl) (hl : l.length ≤ 1048576) (x y : Int) : ∀ (suf pre : List Cl), l = pre ++ suf →
    Ev (fun k => impl_Cell.l0 k l (l.length : Int) (pre.length : Int) x y) (cellGo x y suf pre.length) := by
  intro suf
  induction suf with
  | nil =>
    intro pre h
    subst h
    refine ⟨1, fun k hk => ?_⟩
    obtain ⟨k, rfl⟩ : ∃ m, k = m + 1 := ⟨k - 1, by omega⟩
    simp only [impl_Cell.l0]
    rw [if_neg (nlt_end pre)]
    rfl
  | cons c suf ih =>
    intro pre h
    have := ih (pre ++ [c]) (by simp [h])
    subst h
    by_cases hc : c.f0 = x ∧ c.f1 = y
    · refine Ev.step (f := fun _ => some ((pre.length : Nat) : Int)) (fun k => ?_) (by rw [cellGo, if_pos hc]; exact Ev.now _)
      simp only [impl_Cell.l0]
      rw [if_pos (lt_mid pre suf c), if_pos (Int.natCast_nonneg _), if_pos (lt_mid pre suf c), rdT_mid, hc.1, hc.2]
      simp
    · rw [cellGo, if_neg hc]
      rw [show ((pre ++ [c]).length : Int) = (pre.length : Int) + 1 by simp] at this
      refine Ev.step (fun k => ?_) this
      simp only [impl_Cell.l0]
      rw [if_pos (lt_mid pre suf c), if_pos (Int.natCast_nonneg _), if_pos (lt_mid pre suf c), rdT_mid, wrap_snoc (x := c) (s := suf) (by simp at hl ⊢; omega)]
      rw [if_neg (by simp; exact fun h1 h2 => hc ⟨h1.symm, h2.symm⟩)]
      simp
theorem impl_CellAt_ev (l : List Cl) (hl : l.length ≤ 1048576) (x y : Int) : Ev (fun k => impl_CellAt.f k l x y) (cellAt l x y) := by
  refine Ev.bind (impl_Index_l0 l hl x y l [] rfl) ?_
  exact Ev.now _

theorem rd_get (q : List Int) (i : Nat) (h : i < q.length) : rd q (i : Int) = q[i] := by simp [rd, List.getD, h]

theorem cellGo_bd (x y : Int) : ∀ (l : List Cl) (i : Int), cellGo x y l i = -1 ∨ (i ≤ cellGo x y l i ∧ cellGo x y l i < i + l.length)
  | [], i => .inl rfl
  | c :: cs, i => by
    rw [cellGo]
    split
    · right; simp; omega
    · rcases cellGo_bd x y cs (i + 1) with h | ⟨h1, h2⟩
      · exact .inl h
      · right; simp; omega
theorem cellAt_bd (l : List Cl) (x y : Int) : -1 ≤ cellAt l x y ∧ cellAt l x y < l.length := by
  unfold cellAt
  rcases cellGo_bd x y l 0 with h | ⟨h1, h2⟩ <;> omega
/-- The neighbours of a cell: right, left, up, down; -1 where there is none. -/
def nbrs (l : List Cl) (i : Int) : List Int :=
  [cellAt l ((rd_T81 l i).f0 + 1) (rd_T81 l i).f1, cellAt l ((rd_T81 l i).f0 + -1) (rd_T81 l i).f1, cellAt l (rd_T81 l i).f0 ((rd_T81 l i).f1 + 1), cellAt l (rd_T81 l i).f0 ((rd_T81 l i).f1 + -1)]
theorem nbrs_lt (l : List Cl) (i : Int) : ∀ k ∈ nbrs l i, k < (l.length : Int) := by
  intro k hk
  simp only [nbrs, List.mem_cons, List.not_mem_nil, or_false] at hk
  rcases hk with rfl | rfl | rfl | rfl <;> exact (cellAt_bd ..).2
/-- The cells lie where tables lie. -/
def Near0 (l : List Cl) : Prop := ∀ c ∈ l, 0 ≤ c.f0 ∧ c.f0 ≤ 9 ∧ 0 ≤ c.f1 ∧ c.f1 ≤ 9
theorem near_rd {l : List Cl} (hv : Near0 l) {i : Int} (h0 : 0 ≤ i) (h1 : i < l.length) : 0 ≤ (rd_T81 l i).f0 ∧ (rd_T81 l i).f0 ≤ 9 ∧ 0 ≤ (rd_T81 l i).f1 ∧ (rd_T81 l i).f1 ≤ 9 := by
  have h : i.toNat < l.length := by omega
  have e : rd_T81 l i = l[i.toNat] := by simp [rd_T81, List.getD, h]
  rw [e]
  exact hv _ (List.getElem_mem h)
theorem spec_next {l : List Cl} (hl : l.length ≤ 1048576) (hv : Near0 l) {i : Int} (h0 : 0 ≤ i) (h1 : i < l.length) (dx dy : Int) (hx : -1 ≤ dx ∧ dx ≤ 1) (hy : -1 ≤ dy ∧ dy ≤ 1) :
    Ev (fun k => spec_l15Next.f k l i dx dy) (cellAt l ((rd_T81 l i).f0 + dx) ((rd_T81 l i).f1 + dy)) := by
  have hr := near_rd hv h0 h1
  simp only [spec_l15Next.f, if_pos h0, if_pos h1, pw_wrap (a := (rd_T81 l i).f0 + dx) (by omega) (by omega), pw_wrap (a := (rd_T81 l i).f1 + dy) (by omega) (by omega)]
  refine Ev.bind (spec_CellAt_ev l hl _ _) ?_
  exact Ev.now _
theorem spec_near_l0 (ys : List Int) (hy : ys.length ≤ 1000) : ∀ (suf pre acc : List Int), ys = pre ++ suf → acc.length + suf.length ≤ 1000 →
    Ev (fun k => spec_l15Near.l0 k acc ys (ys.length : Int) (pre.length : Int)) (acc ++ suf.filter (fun k => decide (0 ≤ k))) := by
  intro suf
  induction suf with
  | nil =>
    intro pre acc h ha
    subst h
    refine ev_up ?_
    simp only [spec_l15Near.l0, if_neg (nlt_end pre)]
    simpa using Ev.now acc
  | cons c suf ih =>
    intro pre acc h ha
    have hi := fun acc' h' => ih (pre ++ [c]) acc' (by simp [h]) h'
    subst h
    refine ev_up ?_
    simp only [spec_l15Near.l0, if_pos (lt_mid pre suf c), if_pos (Int.natCast_nonneg pre.length), rd_mid, wrap_snoc (x := c) (s := suf) (p := pre) (by simp at hy ⊢; omega)]
    by_cases hc : c ≥ 0
    · simp only [if_pos hc, if_pos (show acc.length < 17592186044416 by omega)]
      have := hi (acc ++ [c]) (by simp at ha ⊢; omega)
      rw [List.append_assoc] at this
      simpa [hc] using this
    · simp only [if_neg hc]
      have := hi acc (by simp at ha ⊢; omega)
      simpa [hc] using this
theorem spec_near {l : List Cl} (hl : l.length ≤ 1048576) (hv : Near0 l) {i : Int} (h0 : 0 ≤ i) (h1 : i < l.length) :
    Ev (fun k => spec_l15Near.f k l i) ((nbrs l i).filter (fun k => decide (0 ≤ k))) := by
  unfold spec_l15Near.f
  refine Ev.bind (spec_next hl hv h0 h1 1 0 (by omega) (by omega)) ?_
  refine Ev.bind (spec_next hl hv h0 h1 (-1) 0 (by omega) (by omega)) ?_
  refine Ev.bind (spec_next hl hv h0 h1 0 1 (by omega) (by omega)) ?_
  refine Ev.bind (spec_next hl hv h0 h1 0 (-1) (by omega) (by omega)) ?_
  simp only [Option.bind_some]
  have := spec_near_l0 (nbrs l i) (by simp [nbrs]) (nbrs l i) [] [] rfl (by simp [nbrs])
  simp only [nbrs, List.nil_append, List.length_nil, Int.add_zero, Int.ofNat_zero] at this ⊢
  exact this
theorem pushAll_filter : ∀ (ks q : List Int), pushAll q (ks.filter (fun k => decide (0 ≤ k))) = pushAll q ks
  | [], q => rfl
  | k :: ks, q => by
    by_cases hk : 0 ≤ k
    · simp only [List.filter_cons, hk, decide_true, if_true, pushAll, List.foldl_cons]
      exact pushAll_filter ks (push q k)
    · have : push q k = q := by unfold push; rw [if_neg (fun h => hk h.1)]
      simp only [List.filter_cons, hk, decide_false, Bool.false_eq_true, if_false, pushAll, List.foldl_cons, this]
      exact pushAll_filter ks q
theorem spec_table_l2 (l : List Cl) (hl : l.length ≤ 6) (x6 : Int) (hx : 0 ≤ x6 ∧ x6 ≤ 1000) (ys : List Int) (hy : ys.length ≤ 1000) (r : Bool) : ∀ (suf pre q : List Int), ys = pre ++ suf → Few l.length q → (∀ k ∈ suf, 0 ≤ k ∧ k < (l.length : Int)) →
    Ev (fun k => spec_TableOk.l1 k l (pushAll q suf) (x6 + 1)) r → Ev (fun k => spec_TableOk.l2 k l q x6 ys (ys.length : Int) (pre.length : Int)) r := by
  intro suf
  induction suf with
  | nil =>
    intro pre q h hq hk hr
    subst h
    refine ev_up ?_
    simp only [spec_TableOk.l2, if_neg (nlt_end pre), pw_wrap (a := x6 + 1) (by omega) (by omega)]
    exact hr
  | cons c suf ih =>
    intro pre q h hq hk hr
    have hc := hk c (by simp)
    have hf := few_push hq hc.2
    have hi := ih (pre ++ [c]) (push q c) (by simp [h]) hf (fun k h' => hk k (by simp [h'])) hr
    subst h
    have hql := few_len hq
    refine ev_up ?_
    simp only [spec_TableOk.l2, if_pos (lt_mid pre suf c), if_pos (Int.natCast_nonneg pre.length), rd_mid, wrap_snoc (x := c) (s := suf) (p := pre) (by simp at hy ⊢; omega)]
    refine Ev.bind (spec_has q (by omega) c) ?_
    by_cases hm : c ∈ q
    · simp only [decide_eq_true hm, if_true]
      unfold push at hi
      rw [if_neg (fun h => h.2 hm)] at hi
      exact hi
    · simp only [decide_eq_false hm, Bool.false_eq_true, if_false, if_pos (show q.length < 17592186044416 by omega)]
      unfold push at hi
      rw [if_pos ⟨hc.1, hm⟩] at hi
      exact hi
theorem impl_table_l2 (l : List Cl) (hl : l.length ≤ 6) (x6 : Int) (hx : 0 ≤ x6 ∧ x6 ≤ 1000) (ys : List Int) (hy : ys.length ≤ 1000) (r : Bool) : ∀ (suf pre q : List Int), ys = pre ++ suf → Few l.length q → (∀ k ∈ suf, k < (l.length : Int)) →
    Ev (fun k => impl_TableOk.l1 k l (pushAll q suf) (x6 + 1)) r → Ev (fun k => impl_TableOk.l2 k l q x6 ys (ys.length : Int) (pre.length : Int)) r := by
  intro suf
  induction suf with
  | nil =>
    intro pre q h hq hk hr
    subst h
    refine ev_up ?_
    simp only [impl_TableOk.l2, if_neg (nlt_end pre), pw_wrap (a := x6 + 1) (by omega) (by omega)]
    exact hr
  | cons c suf ih =>
    intro pre q h hq hk hr
    have hc := hk c (by simp)
    have hf := few_push hq hc
    have hi := ih (pre ++ [c]) (push q c) (by simp [h]) hf (fun k h' => hk k (by simp [h'])) hr
    subst h
    have hql := few_len hq
    refine ev_up ?_
    simp only [impl_TableOk.l2, if_pos (lt_mid pre suf c), if_pos (Int.natCast_nonneg pre.length), rd_mid, wrap_snoc (x := c) (s := suf) (p := pre) (by simp at hy ⊢; omega)]
    by_cases h0 : c ≥ 0
    · simp only [if_pos h0]
      refine Ev.bind (impl_contains q (by omega) c) ?_
      by_cases hm : c ∈ q
      · simp only [decide_eq_true hm, if_true]
        unfold push at hi
        rw [if_neg (fun h => h.2 hm)] at hi
        exact hi
      · simp only [decide_eq_false hm, Bool.false_eq_true, if_false, if_pos (show q.length < 17592186044416 by omega)]
        unfold push at hi
        rw [if_pos ⟨h0, hm⟩] at hi
        exact hi
    · simp only [if_neg h0]
      unfold push at hi
      rw [if_neg (fun h => h0 h.1)] at hi
      exact hi
/-- Everything is met from the first cell. -/
def whole (l : List Cl) (f : Nat) (q : List Int) (i : Nat) : Bool := ((bfs (nbrs l) f q i).length : Int) == (l.length : Int)
theorem spec_table_l1 (l : List Cl) (hl : l.length ≤ 6) (hv : Near0 l) : ∀ (f : Nat) (q : List Int) (i : Nat), Few l.length q → i ≤ q.length → f + i = l.length + 1 →
    Ev (fun k => spec_TableOk.l1 k l q (i : Int)) (whole l f q i) := by
  intro f
  induction f with
  | zero =>
    intro q i hq hi hf
    have := few_len hq
    omega
  | succ f ih =>
    intro q i hq hi hf
    have hql := few_len hq
    refine ev_up ?_
    by_cases h : i < q.length
    · have hx := hq.2 _ (List.getElem_mem h)
      simp only [spec_TableOk.l1, if_pos (show ((i : Nat) : Int) < (q.length : Int) by omega), if_pos (Int.natCast_nonneg i), rd_get q i h]
      refine Ev.bind (spec_near (by omega) hv hx.1 hx.2) ?_
      have hlt : ∀ k ∈ (nbrs l q[i]).filter (fun k => decide (0 ≤ k)), 0 ≤ k ∧ k < (l.length : Int) := fun k hk => by
        have := List.mem_filter.1 hk
        exact ⟨by simpa using this.2, nbrs_lt l _ k this.1⟩
      have hp := few_pushAll _ q hq (fun k hk => (hlt k hk).2)
      have := ih _ (i + 1) hp.1 (by have := hp.2; omega) (by omega)
      refine spec_table_l2 l hl i (by omega) _ (Nat.le_trans (List.length_filter_le _ _) (by simp [nbrs])) _ _ [] q rfl hq hlt ?_
      rw [whole, bfs, dif_pos h, ← pushAll_filter (nbrs l q[i]) q]
      exact this
    · simp only [spec_TableOk.l1, if_neg (show ¬ ((i : Nat) : Int) < (q.length : Int) by omega)]
      rw [whole, bfs_done _ _ _ _ h]
      exact Ev.now _
theorem impl_table_l1 (l : List Cl) (hl : l.length ≤ 6) (hv : Near0 l) : ∀ (f : Nat) (q : List Int) (i : Nat), Few l.length q → i ≤ q.length → f + i = l.length + 1 →
    Ev (fun k => impl_TableOk.l1 k l q (i : Int)) (whole l f q i) := by
  intro f
  induction f with
  | zero =>
    intro q i hq hi hf
    have := few_len hq
    omega
  | succ f ih =>
    intro q i hq hi hf
    have hql := few_len hq
    refine ev_up ?_
    by_cases h : i < q.length
    · have hx := hq.2 _ (List.getElem_mem h)
      have hr := near_rd hv hx.1 hx.2
      generalize hc : rd_T81 l q[i] = c at hr
      simp only [impl_TableOk.l1, if_pos (show ((i : Nat) : Int) < (q.length : Int) by omega), if_pos (Int.natCast_nonneg i), rd_get q i h, if_pos hx.1, if_pos hx.2, hc,
        pw_wrap (a := c.f0 + 1) (by omega) (by omega), pw_wrap (a := c.f0 - 1) (by omega) (by omega), pw_wrap (a := c.f1 + 1) (by omega) (by omega), pw_wrap (a := c.f1 - 1) (by omega) (by omega)]
      refine Ev.bind (impl_CellAt_ev l (by omega) _ _) ?_
      refine Ev.bind (impl_CellAt_ev l (by omega) _ _) ?_
      refine Ev.bind (impl_CellAt_ev l (by omega) _ _) ?_
      refine Ev.bind (impl_CellAt_ev l (by omega) _ _) ?_
      simp only [Option.bind_some]
      have hp := few_pushAll _ q hq (nbrs_lt l q[i])
      have := ih _ (i + 1) hp.1 (by have := hp.2; omega) (by omega)
      have := impl_table_l2 l hl i (by omega) (nbrs l q[i]) (by simp [nbrs]) _ _ [] q rfl hq (nbrs_lt l q[i]) this
      rw [whole, bfs, dif_pos h]
      unfold nbrs at this ⊢
      rw [hc] at this ⊢
      exact this
    · simp only [impl_TableOk.l1, if_neg (show ¬ ((i : Nat) : Int) < (q.length : Int) by omega)]
      rw [whole, bfs_done _ _ _ _ h]
      exact Ev.now _
/-- The cells lie in range, in ascending order of row and then column. -/
def vGo : Option Cl → List Cl → Bool
  | _, [] => true
  | none, c :: cs => decide (0 ≤ c.f0 ∧ c.f0 ≤ 9) && decide (0 ≤ c.f1 ∧ c.f1 ≤ 9) && vGo (some c) cs
  | some p, c :: cs => decide (0 ≤ c.f0 ∧ c.f0 ≤ 9) && decide (0 ≤ c.f1 ∧ c.f1 ≤ 9) && !decide (c.f1 < p.f1 ∨ c.f1 = p.f1 ∧ c.f0 ≤ p.f0) && vGo (some c) cs
theorem vGo_near : ∀ (p : Option Cl) (l : List Cl), vGo p l = true → Near0 l
  | _, [], _ => fun c hc => by simp at hc
  | none, c :: cs, h => by
    simp only [vGo, Bool.and_eq_true, decide_eq_true_eq] at h
    intro d hd
    rcases List.mem_cons.1 hd with rfl | hd
    · exact ⟨h.1.1.1, h.1.1.2, h.1.2.1, h.1.2.2⟩
    · exact vGo_near (some c) cs h.2 d hd
  | some p, c :: cs, h => by
    simp only [vGo, Bool.and_eq_true, decide_eq_true_eq] at h
    intro d hd
    rcases List.mem_cons.1 hd with rfl | hd
    · exact ⟨h.1.1.1.1, h.1.1.1.2, h.1.1.2.1, h.1.1.2.2⟩
    · exact vGo_near (some c) cs h.2 d hd
def tableB (l : List Cl) : Bool := decide (1 ≤ l.length ∧ l.length ≤ 6) && vGo none l && whole l (l.length + 1) [0] 0
theorem tableB_side {l : List Cl} (h : tableB l = true) : (1 ≤ l.length ∧ l.length ≤ 6) ∧ Near0 l ∧ vGo none l = true ∧ whole l (l.length + 1) [0] 0 = true := by
  simp only [tableB, Bool.and_eq_true, decide_eq_true_eq] at h
  exact ⟨h.1.1, vGo_near _ _ h.1.2, h.1.2, h.2⟩

theorem few_zero {n : Nat} (h : 1 ≤ n) : Few n [0] := ⟨by simp, fun x hx => by simp at hx; subst hx; omega⟩
theorem near_snoc {pre : List Cl} {c : Cl} (h : Near0 pre) (hc : 0 ≤ c.f0 ∧ c.f0 ≤ 9 ∧ 0 ≤ c.f1 ∧ c.f1 ≤ 9) : Near0 (pre ++ [c]) := by
  intro d hd
  rcases List.mem_append.1 hd with hd | hd
  · exact h d hd
  · simp at hd; subst hd; exact hc
theorem spec_table_l0 (l : List Cl) (hn : 1 ≤ l.length ∧ l.length ≤ 6) : ∀ (suf pre : List Cl), l = pre ++ suf → Near0 pre →
    Ev (fun k => spec_TableOk.l0 k l l (l.length : Int) (pre.length : Int)) (vGo pre.getLast? suf && whole l (l.length + 1) [0] 0) := by
  intro suf
  induction suf with
  | nil =>
    intro pre h hp
    refine ev_up ?_
    have hlen : ¬ ((pre.length : Nat) : Int) < (l.length : Int) := by rw [h]; simp
    simp only [spec_TableOk.l0, if_neg hlen]
    have hv : Near0 l := by rw [h]; simpa using hp
    have := spec_table_l1 l hn.2 hv (l.length + 1) [0] 0 (few_zero hn.1) (by simp) rfl
    cases hgl : pre.getLast? <;> simpa [vGo] using this
  | cons c suf ih =>
    intro pre h hp
    have hlt : ((pre.length : Nat) : Int) < (l.length : Int) := by rw [h]; exact lt_mid pre suf c
    have hrd : rd_T81 l (pre.length : Int) = c := by rw [h]; exact rdT_mid pre suf c
    have hw : wrap64 ((pre.length : Int) + 1) = ((pre ++ [c]).length : Int) := wrap_snoc (s := suf) (by rw [← h]; omega)
    refine ev_up ?_
    simp only [spec_TableOk.l0, if_pos hlt, if_pos (Int.natCast_nonneg pre.length), hrd, l01In_eq, Option.bind_some, hw]
    by_cases h1 : 0 ≤ c.f0 ∧ c.f0 ≤ 9
    · by_cases h2 : 0 ≤ c.f1 ∧ c.f1 ≤ 9
      · have hi := ih (pre ++ [c]) (by simp [h]) (near_snoc hp ⟨h1.1, h1.2, h2⟩)
        rw [List.getLast?_concat] at hi
        rcases nil_or_snoc pre with rfl | ⟨pre', p, rfl⟩
        · simp only [decide_eq_true h1, decide_eq_true h2, if_true, if_neg (show ¬ (([] : List Cl).length : Int) > 0 by simp)]
          simpa [vGo, h1, h2] using hi
        · have hlen : ((pre' ++ [p]).length : Int) = (pre'.length : Int) + 1 := by simp
          rw [hlen] at hlt
          have hw2 : wrap64 (((pre' ++ [p]).length : Int) - 1) = (pre'.length : Int) := by rw [hlen]; unfold wrap64; omega
          have hrp : rd_T81 l (pre'.length : Int) = p := by rw [h, List.append_assoc]; exact rdT_mid pre' _ p
          simp only [decide_eq_true h1, decide_eq_true h2, if_true, if_pos (show ((pre' ++ [p]).length : Int) > 0 by rw [hlen]; omega), hw2, if_pos (Int.natCast_nonneg pre'.length), if_pos (show ((pre'.length : Nat) : Int) < (l.length : Int) by omega), hrp]
          rw [List.getLast?_concat]
          by_cases h3 : c.f1 < p.f1
          · simp only [if_pos h3]
            simpa [vGo, h3] using Ev.now false
          · by_cases h4 : c.f1 = p.f1
            · by_cases h5 : c.f0 ≤ p.f0
              · simp only [if_neg h3, if_pos h4, if_pos h5]
                simpa [vGo, h4, h5] using Ev.now false
              · simp only [if_neg h3, if_pos h4, if_neg h5]
                have e : (decide (c.f1 < p.f1 ∨ c.f1 = p.f1 ∧ c.f0 ≤ p.f0)) = false := decide_eq_false (by omega)
                simp only [vGo, decide_eq_true h1, decide_eq_true h2, e, Bool.not_false, Bool.true_and]
                exact hi
            · simp only [if_neg h3, if_neg h4]
              have e : (decide (c.f1 < p.f1 ∨ c.f1 = p.f1 ∧ c.f0 ≤ p.f0)) = false := decide_eq_false (by omega)
              simp only [vGo, decide_eq_true h1, decide_eq_true h2, e, Bool.not_false, Bool.true_and]
              exact hi
      · simp only [decide_eq_true h1, decide_eq_false h2, if_true, Bool.false_eq_true, if_false]
        have e : vGo pre.getLast? (c :: suf) = false := by cases pre.getLast? <;> simp only [vGo, decide_eq_false h2, Bool.and_false, Bool.false_and]
        rw [e]
        exact Ev.now _
    · simp only [decide_eq_false h1, Bool.false_eq_true, if_false]
      have e : vGo pre.getLast? (c :: suf) = false := by cases pre.getLast? <;> simp only [vGo, decide_eq_false h1, Bool.false_and]
      rw [e]
      exact Ev.now _
theorem impl_table_l0 (l : List Cl) (hn : 1 ≤ l.length ∧ l.length ≤ 6) : ∀ (suf pre : List Cl), l = pre ++ suf → Near0 pre →
    Ev (fun k => impl_TableOk.l0 k l l (l.length : Int) (pre.length : Int)) (vGo pre.getLast? suf && whole l (l.length + 1) [0] 0) := by
  intro suf
  induction suf with
  | nil =>
    intro pre h hp
    refine ev_up ?_
    have hlen : ¬ ((pre.length : Nat) : Int) < (l.length : Int) := by rw [h]; simp
    simp only [impl_TableOk.l0, if_neg hlen]
    have hv : Near0 l := by rw [h]; simpa using hp
    have := impl_table_l1 l hn.2 hv (l.length + 1) [0] 0 (few_zero hn.1) (by simp) rfl
    cases hgl : pre.getLast? <;> simpa [vGo] using this
  | cons c suf ih =>
    intro pre h hp
    have hlt : ((pre.length : Nat) : Int) < (l.length : Int) := by rw [h]; exact lt_mid pre suf c
    have hrd : rd_T81 l (pre.length : Int) = c := by rw [h]; exact rdT_mid pre suf c
    have hw : wrap64 ((pre.length : Int) + 1) = ((pre ++ [c]).length : Int) := wrap_snoc (s := suf) (by rw [← h]; omega)
    have hbad : ∀ r : Bool, r = false → Ev (fun k => impl_TableOk.j2 k l (pre.length : Int) l (l.length : Int) (pre.length : Int) true c.f0 c.f1) r := by
      rintro r rfl
      refine ev_up ?_
      simp only [impl_TableOk.j2, if_true]
      exact Ev.now _
    refine ev_up ?_
    simp only [impl_TableOk.l0, if_pos hlt, if_pos (Int.natCast_nonneg pre.length), hrd]
    by_cases h1 : 0 ≤ c.f0 ∧ c.f0 ≤ 9
    · by_cases h2 : 0 ≤ c.f1 ∧ c.f1 ≤ 9
      · have hi := ih (pre ++ [c]) (by simp [h]) (near_snoc hp ⟨h1.1, h1.2, h2⟩)
        rw [List.getLast?_concat] at hi
        simp only [if_neg (show ¬ c.f0 < 0 by omega), if_neg (show ¬ c.f0 > 9 by omega), if_neg (show ¬ c.f1 < 0 by omega), decide_eq_false (show ¬ c.f1 > 9 by omega)]
        refine ev_up ?_
        simp only [impl_TableOk.j2, Bool.false_eq_true, if_false, hw]
        rcases nil_or_snoc pre with rfl | ⟨pre', p, rfl⟩
        · simp only [if_neg (show ¬ (([] : List Cl).length : Int) > 0 by simp)]
          simpa [vGo, h1, h2] using hi
        · have hlen : ((pre' ++ [p]).length : Int) = (pre'.length : Int) + 1 := by simp
          rw [hlen] at hlt
          have hw2 : wrap64 (((pre' ++ [p]).length : Int) - 1) = (pre'.length : Int) := by rw [hlen]; unfold wrap64; omega
          have hrp : rd_T81 l (pre'.length : Int) = p := by rw [h, List.append_assoc]; exact rdT_mid pre' _ p
          simp only [if_pos (show ((pre' ++ [p]).length : Int) > 0 by rw [hlen]; omega), hw2, if_pos (Int.natCast_nonneg pre'.length), if_pos (show ((pre'.length : Nat) : Int) < (l.length : Int) by omega), hrp]
          rw [List.getLast?_concat]
          by_cases h3 : c.f1 < p.f1
          · simp only [if_pos h3]
            simpa [vGo, h3] using Ev.now false
          · by_cases h4 : c.f1 = p.f1
            · by_cases h5 : c.f0 ≤ p.f0
              · simp only [if_neg h3, if_pos h4, if_pos h5]
                simpa [vGo, h4, h5] using Ev.now false
              · simp only [if_neg h3, if_pos h4, if_neg h5]
                have e : (decide (c.f1 < p.f1 ∨ c.f1 = p.f1 ∧ c.f0 ≤ p.f0)) = false := decide_eq_false (by omega)
                simp only [vGo, decide_eq_true h1, decide_eq_true h2, e, Bool.not_false, Bool.true_and]
                exact hi
            · simp only [if_neg h3, if_neg h4]
              have e : (decide (c.f1 < p.f1 ∨ c.f1 = p.f1 ∧ c.f0 ≤ p.f0)) = false := decide_eq_false (by omega)
              simp only [vGo, decide_eq_true h1, decide_eq_true h2, e, Bool.not_false, Bool.true_and]
              exact hi
      · have e : vGo pre.getLast? (c :: suf) = false := by cases pre.getLast? <;> simp only [vGo, decide_eq_false h2, Bool.and_false, Bool.false_and]
        simp only [if_neg (show ¬ c.f0 < 0 by omega), if_neg (show ¬ c.f0 > 9 by omega)]
        by_cases h3 : c.f1 < 0
        · simp only [if_pos h3]
          exact hbad _ (by rw [e]; rfl)
        · simp only [if_neg h3, decide_eq_true (show c.f1 > 9 by omega)]
          exact hbad _ (by rw [e]; rfl)
    · have e : vGo pre.getLast? (c :: suf) = false := by cases pre.getLast? <;> simp only [vGo, decide_eq_false h1, Bool.false_and]
      by_cases h3 : c.f0 < 0
      · simp only [if_pos h3]
        exact hbad _ (by rw [e]; rfl)
      · simp only [if_neg h3, if_pos (show c.f0 > 9 by omega)]
        exact hbad _ (by rw [e]; rfl)
theorem spec_table (l : List Cl) : Ev (fun k => spec_TableOk.f k l) (tableB l) := by
  unfold spec_TableOk.f tableB
  simp only [l01In_eq, Option.bind_some]
  by_cases h : 1 ≤ l.length ∧ l.length ≤ 6
  · simp only [decide_eq_true h, decide_eq_true (show 1 ≤ (l.length : Int) ∧ (l.length : Int) ≤ 6 by omega), if_true, Bool.true_and]
    exact spec_table_l0 l h l [] rfl (fun c hc => by simp at hc)
  · simp only [decide_eq_false h, decide_eq_false (show ¬ (1 ≤ (l.length : Int) ∧ (l.length : Int) ≤ 6) by omega), Bool.false_eq_true, if_false, Bool.false_and]
    exact Ev.now _
theorem impl_table (l : List Cl) : Ev (fun k => impl_TableOk.f k l) (tableB l) := by
  unfold impl_TableOk.f tableB
  by_cases h1 : (l.length : Int) < 1
  · simp only [if_pos h1, decide_eq_false (show ¬ (1 ≤ l.length ∧ l.length ≤ 6) by omega), Bool.false_and]
    refine ev_up ?_
    simp only [impl_TableOk.j0, if_true]
    exact Ev.now _
  · simp only [if_neg h1]
    refine ev_up ?_
    by_cases h2 : l.length ≤ 6
    · simp only [impl_TableOk.j0, decide_eq_false (show ¬ (l.length : Int) > 6 by omega), Bool.false_eq_true, if_false, decide_eq_true (show 1 ≤ l.length ∧ l.length ≤ 6 by omega), Bool.true_and]
      exact impl_table_l0 l (by omega) l [] rfl (fun c hc => by simp at hc)
    · simp only [impl_TableOk.j0, decide_eq_true (show (l.length : Int) > 6 by omega), if_true, decide_eq_false (show ¬ (1 ≤ l.length ∧ l.length ≤ 6) by omega), Bool.false_and]
      exact Ev.now _

/-- A number in decimals. -/
def decB (u : Nat) : ByteArray := ⟨(Go.Lib.decDigits u).toArray⟩
def itoaB (n : Int) : ByteArray := ⟨(Go.Lib.itoa n).toArray⟩
theorem nDig_le : ∀ (d u : Nat), u < 10 ^ (d + 1) → Go.Lib.nDigits u ≤ d + 1
  | 0, u, h => by rw [Go.Lib.nDigits_small (by simpa using h)]; omega
  | d + 1, u, h => by
    by_cases hu : u < 10
    · rw [Go.Lib.nDigits_small hu]; omega
    · rw [Go.Lib.nDigits_big hu]
      have := nDig_le d (u / 10) (by rw [Nat.pow_succ] at h; omega)
      omega
theorem decB_size (u : Nat) : (decB u).size = Go.Lib.nDigits u := by
  show (Go.Lib.decDigits u).toArray.size = _
  rw [List.size_toArray, Go.Lib.decDigits_length]
theorem bytes_app (a b : List UInt8) : (⟨a.toArray⟩ : ByteArray) ++ ⟨b.toArray⟩ = ⟨(a ++ b).toArray⟩ := by
  apply ByteArray.ext
  rw [ByteArray.data_append]
  simp
theorem app_assocB (a b c : ByteArray) : a ++ b ++ c = a ++ (b ++ c) := by
  apply ByteArray.ext
  simp [ByteArray.data_append, Array.append_assoc]
theorem one_strB (n : Int) (u : Nat) (h : n = ((u : Nat) : Int)) : strOfNums [n] = ⟨[UInt8.ofNat u].toArray⟩ := by
  subst h
  simp [strOfNums]
theorem strOne_size (n : Int) : (strOfNums [n]).size = 1 := id rfl
theorem decB_small {u : Nat} (h : u < 10) : decB u = strOfNums [(48 + (u : Int))] := by
  rw [one_strB _ (48 + u) (by omega)]
  unfold decB
  rw [Go.Lib.decDigits, dif_pos h]
theorem decB_big {u : Nat} (h : ¬ u < 10) : decB u = decB (u / 10) ++ strOfNums [(48 + (u : Int) % 10)] := by
  rw [one_strB _ (48 + u % 10) (by omega)]
  unfold decB
  rw [bytes_app, Go.Lib.decDigits, dif_neg h]
theorem itoaB_pos {n : Int} (h : 0 ≤ n) : itoaB n = decB n.toNat := by
  unfold itoaB Go.Lib.itoa decB
  rw [if_neg (by omega)]
theorem itoaB_neg {n : Int} (h : n < 0) : itoaB n = (⟨#[45]⟩ : ByteArray) ++ decB n.natAbs := by
  unfold itoaB Go.Lib.itoa decB
  rw [if_pos h, show (⟨#[45]⟩ : ByteArray) = ⟨[45].toArray⟩ from rfl, bytes_app]
  rfl
theorem itoaB_size {n : Int} (h0 : -9223372036854775808 ≤ n) (h1 : n ≤ 9223372036854775807) : (itoaB n).size ≤ 20 := by
  by_cases h : 0 ≤ n
  · rw [itoaB_pos h, decB_size]
    have := nDig_le 18 n.toNat (by omega)
    omega
  · rw [itoaB_neg (by omega), ByteArray.size_append, decB_size]
    have := nDig_le 18 n.natAbs (by omega)
    show 1 + _ ≤ 20
    omega
theorem spec_fmt_l0 : ∀ (u : Nat) (x : Int) (acc : ByteArray), x = u → u < 10 ^ 19 → acc.size + Go.Lib.nDigits u ≤ 40 → Ev (fun k => spec_FormatInt.l0 k x acc) (decB u ++ acc) := by
  intro u
  induction u using Nat.strongRecOn with
  | _ u ih =>
    intro x acc hx hu hs
    subst hx
    refine ev_up ?_
    have h9 : (10 : Int) ^ 19 = 10000000000000000000 := by decide
    by_cases h : u < 10
    · have hw : (wrap64 (48 + (u : Int))) % 256 = 48 + (u : Int) := by rw [pw_wrap (by omega) (by omega)]; omega
      have hn := Go.Lib.nDigits_small h
      simp only [spec_FormatInt.l0, if_neg (show ¬ ((u : Int) > 9) by omega), hw, Option.bind_some, strOne_size, if_pos (show 1 + acc.size ≤ 9223372036854775807 by omega)]
      rw [decB_small h]
      exact Ev.now _
    · have ht : Int.tmod (u : Int) 10 = (u : Int) % 10 := Int.tmod_eq_emod_of_nonneg (by omega)
      have hq : Int.tdiv (u : Int) 10 = (u : Int) / 10 := Int.tdiv_eq_ediv_of_nonneg (by omega)
      have hw : (wrap64 (48 + (u : Int) % 10)) % 256 = 48 + (u : Int) % 10 := by rw [pw_wrap (by omega) (by omega)]; omega
      have hw2 : wrap64 ((u : Int) / 10) = ((u / 10 : Nat) : Int) := by rw [pw_wrap (by omega) (by omega)]; omega
      have hn := Go.Lib.nDigits_big h
      simp only [spec_FormatInt.l0, if_pos (show ((u : Int) > 9) by omega), ht, hq, hw, hw2, Option.bind_some, strOne_size, if_pos (show 1 + acc.size ≤ 9223372036854775807 by omega)]
      rw [decB_big h, app_assocB]
      exact ih (u / 10) (by omega) _ _ rfl (by omega) (by rw [ByteArray.size_append, strOne_size]; omega)
theorem spec_fmtint {n : Int} (h0 : -9223372036854775808 ≤ n) (h1 : n ≤ 9223372036854775807) : Ev (fun k => spec_FormatInt.f k n) (itoaB n) := by
  by_cases hn : 0 ≤ n
  · refine ev_up ?_
    simp only [spec_FormatInt.f, if_neg (show ¬ n < 0 by omega)]
    rw [itoaB_pos hn]
    have := spec_fmt_l0 n.toNat n ⟨#[]⟩ (by omega) (by omega) (by
      have := nDig_le 18 n.toNat (by omega)
      show 0 + _ ≤ 40
      omega)
    rw [show decB n.toNat ++ (⟨#[]⟩ : ByteArray) = decB n.toNat from by apply ByteArray.ext; simp [ByteArray.data_append]] at this
    exact this
  · have key : ∀ (u : Nat) (n : Int), n = -(u : Int) → 1 ≤ u → u ≤ 9223372036854775808 → Ev (fun k => spec_FormatInt.f k n) ((⟨#[45]⟩ : ByteArray) ++ decB u) := by
      intro u
      induction u using Nat.strongRecOn with
      | _ u ih =>
        intro n hx h1 h2
        subst hx
        refine ev_up ?_
        have hq : Int.tdiv (-(u : Int)) 10 = -((u / 10 : Nat) : Int) := by rw [Int.neg_tdiv, Int.tdiv_eq_ediv_of_nonneg (by omega)]; omega
        have ht : Int.tmod (-(u : Int)) 10 = -((u : Int) % 10) := by rw [Int.neg_tmod, Int.tmod_eq_emod_of_nonneg (by omega)]
        have hw2 : wrap64 (-((u / 10 : Nat) : Int)) = -((u / 10 : Nat) : Int) := pw_wrap (by omega) (by omega)
        by_cases h : u < 10
        · have hw : (wrap64 (48 - -(u : Int))) % 256 = 48 + (u : Int) := by rw [pw_wrap (by omega) (by omega)]; omega
          simp only [spec_FormatInt.f, if_pos (show -(u : Int) < 0 by omega), hq, hw2, hw, if_pos (show -((u / 10 : Nat) : Int) = 0 by omega), Option.bind_some, strOne_size, if_pos (show 1 + 1 ≤ 9223372036854775807 by omega)]
          rw [decB_small h]
          exact Ev.now _
        · have hw : (wrap64 (48 - -((u : Int) % 10))) % 256 = 48 + (u : Int) % 10 := by rw [pw_wrap (by omega) (by omega)]; omega
          simp only [spec_FormatInt.f, if_pos (show -(u : Int) < 0 by omega), hq, ht, hw2, hw, if_neg (show ¬ -((u / 10 : Nat) : Int) = 0 by omega)]
          refine Ev.bind (ih (u / 10) (by omega) _ rfl (by omega) (by omega)) ?_
          have hz : ((⟨#[45]⟩ : ByteArray) ++ decB (u / 10)).size ≤ 20 := by
            rw [ByteArray.size_append, decB_size]
            have := nDig_le 18 (u / 10) (by omega)
            show 1 + _ ≤ 20
            omega
          simp only [Option.bind_some, strOne_size, if_pos (show ((⟨#[45]⟩ : ByteArray) ++ decB (u / 10)).size + 1 ≤ 9223372036854775807 by omega)]
          rw [decB_big h, ← app_assocB]
          exact Ev.now _
    rw [itoaB_neg (by omega)]
    exact key n.natAbs n (by omega) (by omega) (by omega)
theorem impl_fmtint {n : Int} (h0 : -9223372036854775808 ≤ n) (h1 : n ≤ 9223372036854775807) : impl_FormatInt.f n = some (itoaB n) := by
  unfold impl_FormatInt.f strconv_Itoa.f
  rw [if_pos ⟨h0, h1⟩]
  rfl
def joinOf (l : List ByteArray) (sep : ByteArray) : ByteArray := ⟨(joinB l sep).toArray⟩
def tot (l : List ByteArray) (sep : ByteArray) : Nat := match l with
  | [] => 0
  | x :: xs => x.size + sep.size + tot xs sep
theorem tot_append (sep : ByteArray) : ∀ (a b : List ByteArray), tot (a ++ b) sep = tot a sep + tot b sep
  | [], b => by simp [tot]
  | x :: a, b => by simp only [List.cons_append, tot, tot_append sep a b]; omega
theorem join_two (sep a : List UInt8) (xs : List (List UInt8)) (h : xs ≠ []) : Go.Lib.join (a :: xs) sep = a ++ sep ++ Go.Lib.join xs sep := by
  cases xs with
  | nil => exact absurd rfl h
  | cons b t => simp [Go.Lib.join, List.intercalate]
theorem join_snoc (sep x : List UInt8) : ∀ (xs : List (List UInt8)), xs ≠ [] → Go.Lib.join (xs ++ [x]) sep = Go.Lib.join xs sep ++ sep ++ x
  | [], h => absurd rfl h
  | [a], _ => by simp [Go.Lib.join, List.intercalate]
  | a :: b :: t, _ => by
    rw [List.cons_append, join_two sep a _ (by simp), join_snoc sep x (b :: t) (by simp), join_two sep a (b :: t) (by simp)]
    simp [List.append_assoc]
theorem bytes_self (x : ByteArray) : (⟨x.data.toList.toArray⟩ : ByteArray) = x := by
  apply ByteArray.ext
  simp
theorem joinOf_nil (sep : ByteArray) : joinOf [] sep = ⟨#[]⟩ := by simp [joinOf, joinB, Go.Lib.join, List.intercalate]
theorem joinOf_one (x sep : ByteArray) : joinOf [x] sep = x := by
  simp [joinOf, joinB, Go.Lib.join, List.intercalate]
theorem joinOf_snoc (l : List ByteArray) (x sep : ByteArray) (h : l ≠ []) : joinOf (l ++ [x]) sep = joinOf l sep ++ sep ++ x := by
  unfold joinOf joinB
  rw [List.map_append, List.map_cons, List.map_nil, join_snoc _ _ _ (by simpa using h), ← bytes_app, ← bytes_app, bytes_self, bytes_self]
theorem joinOf_size (sep : ByteArray) : ∀ (l : List ByteArray), (joinOf l sep).size ≤ tot l sep
  | [] => by rw [joinOf_nil]; exact Nat.zero_le _
  | [x] => by rw [joinOf_one]; simp only [tot]; omega
  | x :: y :: l => by
    have h : joinOf (x :: y :: l) sep = x ++ sep ++ joinOf (y :: l) sep := by
      unfold joinOf joinB
      rw [List.map_cons, join_two _ _ _ (by simp), ← bytes_app, ← bytes_app, bytes_self, bytes_self]
    rw [h, ByteArray.size_append, ByteArray.size_append]
    have := joinOf_size sep (y :: l)
    rw [tot]
    omega
theorem rdOf_mid (d : ByteArray) (pre suf : List ByteArray) (x : ByteArray) : rdOf d (pre ++ x :: suf) (pre.length : Int) = x := by
  simp [rdOf, List.getD]
theorem spec_join_l0 (sep : ByteArray) (l : List ByteArray) (hl : l.length ≤ 1000000000000) (ht : tot l sep ≤ 1000000000000) : ∀ (suf pre : List ByteArray), l = pre ++ suf → Ev (fun k => spec_Join.l0 k sep (joinOf pre sep) l (l.length : Int) (pre.length : Int)) (joinOf l sep)
  | [], pre, e => by
    refine ev_up ?_
    have e2 : l = pre := by simpa using e
    subst e2
    simp only [spec_Join.l0, if_neg (show ¬ ((l.length : Int) < l.length) by omega)]
    exact Ev.now _
  | x :: suf, pre, e => by
    refine ev_up ?_
    have hlen : l.length = pre.length + suf.length + 1 := by rw [e]; simp; omega
    have htt : tot l sep = tot pre sep + (x.size + sep.size + tot suf sep) := by rw [e, tot_append]; simp only [tot]
    have hs := joinOf_size sep pre
    have hx : rdOf ByteArray.empty l (pre.length : Int) = x := by rw [e]; exact rdOf_mid _ _ _ _
    have hw : wrap64 ((pre.length : Int) + 1) = ((pre ++ [x]).length : Int) := by rw [pw_wrap (by omega) (by omega)]; simp
    have ih := spec_join_l0 sep l hl ht suf (pre ++ [x]) (by simp [e])
    simp only [spec_Join.l0, if_pos (show ((pre.length : Int) < l.length) by omega), if_pos (show (0 ≤ (pre.length : Int)) by omega), hx, hw]
    by_cases hp : pre = []
    · subst hp
      rw [List.nil_append, joinOf_one] at ih
      have hz : (joinOf [] sep).size = 0 := by rw [joinOf_nil]; rfl
      refine Ev.congr (f := fun k => _) (fun k => (if_neg (show ¬ (((([] : List ByteArray).length : Nat) : Int) > 0) by simp)).trans (if_pos (by omega))) ?_
      rw [joinOf_nil, show (⟨#[]⟩ : ByteArray) ++ x = x from by apply ByteArray.ext; simp [ByteArray.data_append]]
      exact ih
    · have hpl : 0 < pre.length := List.length_pos_iff.2 hp
      rw [joinOf_snoc _ _ _ hp] at ih
      refine Ev.congr (f := fun k => _) (fun k => ((if_pos (show (pre.length : Int) > 0 by omega)).trans (if_pos (by omega))).trans (if_pos (by rw [ByteArray.size_append]; omega))) ?_
      exact ih
theorem spec_join (sep : ByteArray) (l : List ByteArray) (hl : l.length ≤ 1000000000000) (ht : tot l sep ≤ 1000000000000) : Ev (fun k => spec_Join.f k l sep) (joinOf l sep) := by
  unfold spec_Join.f
  have := spec_join_l0 sep l hl ht l [] rfl
  rw [joinOf_nil] at this
  exact this
theorem impl_join (sep : ByteArray) (l : List ByteArray) (hl : l.length ≤ 1000000000000) (ht : tot l sep ≤ 1000000000000) : impl_Join.f l sep = some (joinOf l sep) := by
  unfold impl_Join.f strings_Join.f
  have hs : (joinB l sep).length ≤ tot l sep := by
    have := joinOf_size sep l
    exact this
  rw [if_pos ⟨by omega, by omega⟩]
  rfl

def cellB (c : Cl) : ByteArray := itoaB c.f0 ++ (⟨#[44]⟩ : ByteArray) ++ itoaB c.f1
theorem cellB_bd {c : Cl} (h : 0 ≤ c.f0 ∧ c.f0 ≤ 9 ∧ 0 ≤ c.f1 ∧ c.f1 ≤ 9) : (itoaB c.f0).size ≤ 20 ∧ (itoaB c.f1).size ≤ 20 ∧ (itoaB c.f0 ++ (⟨#[44]⟩ : ByteArray)).size + (itoaB c.f1).size ≤ 9223372036854775807 ∧ (cellB c).size ≤ 41 := by
  have za := itoaB_size (n := c.f0) (by omega) (by omega)
  have zb := itoaB_size (n := c.f1) (by omega) (by omega)
  have e : (⟨#[44]⟩ : ByteArray).size = 1 := rfl
  refine ⟨za, zb, ?_, ?_⟩
  · rw [ByteArray.size_append, e]
    omega
  · unfold cellB
    rw [ByteArray.size_append, ByteArray.size_append, e]
    omega
theorem tot_cells (sep : ByteArray) (hs : sep.size = 1) : ∀ (l : List Cl), Near0 l → tot (l.map cellB) sep ≤ 42 * l.length
  | [], _ => by simp [tot]
  | x :: l, h => by
    have h1 := tot_cells sep hs l (fun y hy => h y (List.mem_cons_of_mem _ hy))
    have h3 := (cellB_bd (h x List.mem_cons_self)).2.2.2
    simp only [List.map_cons, tot, List.length_cons]
    omega
def tableT (l : List Cl) : ByteArray := if tableB l = true then joinOf (l.map cellB) ⟨#[32]⟩ else ⟨#[]⟩
theorem tableT_size (l : List Cl) : (tableT l).size ≤ 252 := by
  unfold tableT
  by_cases h : tableB l = true
  · obtain ⟨h6, hn, _, _⟩ := tableB_side h
    rw [if_pos h]
    have := joinOf_size ⟨#[32]⟩ (l.map cellB)
    have := tot_cells ⟨#[32]⟩ rfl l hn
    omega
  · rw [if_neg h]
    exact Nat.zero_le _
theorem spec_fmttable_l0 (l : List Cl) (hl : l.length ≤ 6) (h : Near0 l) : ∀ (suf pre : List Cl), l = pre ++ suf → Ev (fun k => spec_FormatTable.l0 k (pre.map cellB) l (l.length : Int) (pre.length : Int)) (joinOf (l.map cellB) ⟨#[32]⟩)
  | [], pre, e => by
    refine ev_up ?_
    have e2 : l = pre := by simpa using e
    subst e2
    have := tot_cells ⟨#[32]⟩ rfl l h
    simp only [spec_FormatTable.l0, if_neg (show ¬ ((l.length : Int) < l.length) by omega)]
    exact Ev.bind (spec_join _ (l.map cellB) (by rw [List.length_map]; omega) (by omega)) (Ev.now _)
  | x :: suf, pre, e => by
    refine ev_up ?_
    have hlen : l.length = pre.length + suf.length + 1 := by rw [e]; simp; omega
    have hx : rd_T81 l (pre.length : Int) = x := by rw [e]; exact rdT_mid _ _ _
    have hxm := h x (by rw [e]; simp)
    have hb := cellB_bd hxm
    have hw : wrap64 ((pre.length : Int) + 1) = ((pre ++ [x]).length : Int) := by rw [pw_wrap (by omega) (by omega)]; simp
    have ih := spec_fmttable_l0 l hl h suf (pre ++ [x]) (by simp [e])
    simp only [spec_FormatTable.l0, if_pos (show ((pre.length : Int) < l.length) by omega), if_pos (show (0 ≤ (pre.length : Int)) by omega), hx, hw]
    refine Ev.bind (spec_fmtint (n := x.f0) (by omega) (by omega)) ?_
    refine Ev.congr (f := fun k => _) (fun k => if_pos (by omega)) ?_
    refine Ev.bind (spec_fmtint (n := x.f1) (by omega) (by omega)) ?_
    refine Ev.congr (f := fun k => _) (fun k => (if_pos hb.2.2.1).trans (if_pos (by rw [List.length_map]; omega))) ?_
    rw [List.map_append] at ih
    exact ih
theorem impl_fmttable_l0 (l : List Cl) (hl : l.length ≤ 6) (h : Near0 l) : ∀ (suf pre : List Cl), l = pre ++ suf → Ev (fun k => impl_FormatTable.l0 k (pre.map cellB) l (l.length : Int) (pre.length : Int)) (joinOf (l.map cellB) ⟨#[32]⟩)
  | [], pre, e => by
    refine ev_up ?_
    have e2 : l = pre := by simpa using e
    subst e2
    have := tot_cells ⟨#[32]⟩ rfl l h
    simp only [impl_FormatTable.l0, if_neg (show ¬ ((l.length : Int) < l.length) by omega), impl_join _ (l.map cellB) (by rw [List.length_map]; omega) (show tot (l.map cellB) ⟨#[32]⟩ ≤ 1000000000000 by omega), Option.bind_some]
    exact Ev.now _
  | x :: suf, pre, e => by
    refine ev_up ?_
    have hlen : l.length = pre.length + suf.length + 1 := by rw [e]; simp; omega
    have hx : rd_T81 l (pre.length : Int) = x := by rw [e]; exact rdT_mid _ _ _
    have hxm := h x (by rw [e]; simp)
    have hb := cellB_bd hxm
    have hw : wrap64 ((pre.length : Int) + 1) = ((pre ++ [x]).length : Int) := by rw [pw_wrap (by omega) (by omega)]; simp
    have ih := impl_fmttable_l0 l hl h suf (pre ++ [x]) (by simp [e])
    simp only [impl_FormatTable.l0, if_pos (show ((pre.length : Int) < l.length) by omega), if_pos (show (0 ≤ (pre.length : Int)) by omega), hx, hw, impl_fmtint (n := x.f0) (by omega) (by omega), impl_fmtint (n := x.f1) (by omega) (by omega), Option.bind_some]
    refine Ev.congr (f := fun k => _) (fun k => ((if_pos (by omega)).trans (if_pos hb.2.2.1)).trans (if_pos (by rw [List.length_map]; omega))) ?_
    rw [List.map_append] at ih
    exact ih
theorem spec_fmttable (l : List Cl) : Ev (fun k => spec_FormatTable.f k l) (tableT l) := by
  unfold spec_FormatTable.f tableT
  refine Ev.bind (spec_table l) ?_
  by_cases h : tableB l = true
  · obtain ⟨h6, hn, _, _⟩ := tableB_side h
    simp only [if_pos h]
    exact spec_fmttable_l0 l h6.2 hn l [] rfl
  · simp only [if_neg h]
    exact Ev.now _
theorem impl_fmttable (l : List Cl) : Ev (fun k => impl_FormatTable.f k l) (tableT l) := by
  unfold impl_FormatTable.f tableT
  refine Ev.bind (impl_table l) ?_
  by_cases h : tableB l = true
  · obtain ⟨h6, hn, _, _⟩ := tableB_side h
    simp only [if_pos h]
    exact impl_fmttable_l0 l h6.2 hn l [] rfl
  · simp only [if_neg h]
    exact Ev.now _

theorem loop_eq (b : ByteArray) : ∀ (d i : Nat) (r : List UInt8), b.size - i = d → ByteArray.toList.loop b i r = r.reverse ++ b.data.toList.drop i
  | 0, i, r, h => by
    rw [ByteArray.toList.loop, if_neg (by omega), List.drop_eq_nil_of_le (by have e : b.data.toList.length = b.size := rfl; omega)]
    simp
  | d + 1, i, r, h => by
    have hi : i < b.data.toList.length := by have e : b.data.toList.length = b.size := rfl; omega
    rw [ByteArray.toList.loop, if_pos (by omega), loop_eq b d (i + 1) _ (by omega), List.drop_eq_getElem_cons hi]
    have e : b.get! i = b.data.toList[i] := by
      have h2 : i < b.data.size := by simpa using hi
      show b.data[i]! = _
      rw [getElem!_pos b.data i h2]
      simp
    rw [e]
    simp
theorem toList_eq (b : ByteArray) : b.toList = b.data.toList := by
  unfold ByteArray.toList
  rw [loop_eq b b.size 0 [] (by omega)]
  simp
/-! A text cut at a byte. -/
def ofL (l : List UInt8) : ByteArray := ⟨l.toArray⟩
theorem ofL_self (s : ByteArray) : ofL s.data.toList = s := by
  apply ByteArray.ext
  simp [ofL]
theorem ofL_size (l : List UInt8) : (ofL l).size = l.length := by
  show l.toArray.size = _
  simp
theorem len_data (s : ByteArray) : s.data.toList.length = s.size := rfl
def consH (b : UInt8) (x : List (List UInt8)) : List (List UInt8) := match x with
  | [] => [[b]]
  | y :: ys => (b :: y) :: ys
def consL (a : List UInt8) (x : List (List UInt8)) : List (List UInt8) := match x with
  | [] => [a]
  | y :: ys => (a ++ y) :: ys
def splL (c : UInt8) : List UInt8 → List (List UInt8)
  | [] => [[]]
  | b :: l => if b = c then [] :: splL c l else consH b (splL c l)
theorem splL_ne (c : UInt8) : ∀ l : List UInt8, splL c l ≠ []
  | [] => by simp [splL]
  | b :: l => by
    unfold splL
    split
    · simp
    · unfold consH
      split <;> simp
theorem consL_nil (x : List (List UInt8)) (h : x ≠ []) : consL [] x = x := by
  cases x with
  | nil => exact absurd rfl h
  | cons y ys => simp [consL]
theorem consL_snoc (a : List UInt8) (b : UInt8) (x : List (List UInt8)) : consL (a ++ [b]) x = consL a (consH b x) := by
  cases x with
  | nil => simp [consL, consH]
  | cons y ys => simp [consL, consH]
theorem splL_app (c : UInt8) : ∀ (a l : List UInt8), c ∉ a → splL c (a ++ l) = consL a (splL c l)
  | [], l, _ => (consL_nil _ (splL_ne c l)).symm
  | b :: a, l, h => by
    have hb : ¬ b = c := fun e => h (by simp [e])
    have ih := splL_app c a l (fun h2 => h (List.mem_cons_of_mem _ h2))
    rw [List.cons_append, splL, if_neg hb, ih]
    cases splL c l with
    | nil => simp [consL, consH]
    | cons y ys => simp [consL, consH]
theorem splL_self (c : UInt8) (a : List UInt8) (h : c ∉ a) : splL c a = [a] := by
  have := splL_app c a [] h
  rw [List.append_nil] at this
  rw [this]
  simp [splL, consL]
theorem splL_cut (c : UInt8) (a l : List UInt8) (h : c ∉ a) : splL c (a ++ c :: l) = a :: splL c l := by
  rw [splL_app c a _ h, splL, if_pos rfl]
  simp [consL]
theorem splL_join (c : UInt8) : ∀ (l : List (List UInt8)), l ≠ [] → (∀ x ∈ l, c ∉ x) → splL c (Go.Lib.join l [c]) = l
  | [], h, _ => absurd rfl h
  | [x], _, h => by
    rw [show Go.Lib.join [x] [c] = x by simp [Go.Lib.join, List.intercalate]]
    exact splL_self c x (h x (by simp))
  | x :: y :: l, _, h => by
    have e : Go.Lib.join (x :: y :: l) [c] = x ++ c :: Go.Lib.join (y :: l) [c] := by
      simp [Go.Lib.join, List.intercalate]
    rw [e, splL_cut c x _ (h x (by simp)), splL_join c (y :: l) (by simp) (fun z hz => h z (List.mem_cons_of_mem _ hz))]
theorem consH_len (b : UInt8) (n : Nat) (x : List (List UInt8)) (h : ∀ p ∈ x, p.length ≤ n) : ∀ p ∈ consH b x, p.length ≤ n + 1 := by
  intro p hp
  cases x with
  | nil =>
    simp only [consH, List.mem_singleton] at hp
    subst hp
    simp
  | cons y ys =>
    simp only [consH, List.mem_cons] at hp
    rcases hp with rfl | hp
    · have := h y (by simp)
      simp only [List.length_cons]
      omega
    · have := h p (List.mem_cons_of_mem _ hp)
      omega
theorem splL_len (c : UInt8) : ∀ l : List UInt8, (splL c l).length ≤ l.length + 1 ∧ ∀ p ∈ splL c l, p.length ≤ l.length
  | [] => by simp [splL]
  | b :: l => by
    obtain ⟨h1, h2⟩ := splL_len c l
    unfold splL
    split
    · refine ⟨by simp only [List.length_cons]; omega, fun p hp => ?_⟩
      rcases List.mem_cons.1 hp with rfl | hp
      · simp
      · have := h2 p hp
        simp only [List.length_cons]
        omega
    · refine ⟨?_, by simpa using consH_len b l.length _ h2⟩
      cases hx : splL c l with
      | nil => exact absurd hx (splL_ne c l)
      | cons y ys =>
        rw [hx] at h1
        simp only [consH, List.length_cons] at h1 ⊢
        omega
/-- The pieces, as texts. -/
def splA (c : UInt8) (s : ByteArray) : List ByteArray := (splL c s.data.toList).map ofL
theorem splA_side (c : UInt8) (s : ByteArray) : 1 ≤ (splA c s).length ∧ (splA c s).length ≤ s.size + 1 ∧ ∀ p ∈ splA c s, p.size ≤ s.size := by
  obtain ⟨h1, h2⟩ := splL_len c s.data.toList
  have h3 := splL_ne c s.data.toList
  rw [len_data] at h1
  unfold splA
  refine ⟨by rw [List.length_map]; have := List.length_pos_iff.2 h3; omega, by rw [List.length_map]; omega, fun p hp => ?_⟩
  obtain ⟨q, hq, rfl⟩ := List.mem_map.1 hp
  rw [ofL_size]
  exact h2 q hq
/-- The library's pieces are these. -/
theorem splitK_cons (c b : UInt8) (l : List UInt8) (h : ¬ b = c) (n : Nat) : Go.Lib.splitK [c] 0 n (b :: l) = consH b (Go.Lib.splitK [c] 0 n l) := by
  have hp : ([c] : List UInt8).isPrefixOf (b :: l) = false := by simp [List.isPrefixOf, Ne.symm h]
  have hix : Go.Lib.index (b :: l) [c] = if Go.Lib.index l [c] == -1 then -1 else Go.Lib.index l [c] + 1 := by rw [Go.Lib.index, hp]; simp
  cases n with
  | zero => simp [Go.Lib.splitK, consH]
  | succ n =>
    unfold Go.Lib.splitK
    by_cases hm : Go.Lib.index l [c] = -1
    · rw [hix, hm]
      simp [consH]
    · have hge := Go.Lib.index_ge l [c]
      obtain ⟨j, hj⟩ : ∃ j : Nat, Go.Lib.index l [c] = j := ⟨(Go.Lib.index l [c]).toNat, by omega⟩
      have h1 : ¬ (((j : Nat) : Int) == -1) = true := by rw [beq_iff_eq]; omega
      have h2 : ¬ (((j : Nat) : Int) + 1 == -1) = true := by rw [beq_iff_eq]; omega
      have e : (((j : Nat) : Int) + 1).toNat = j + 1 := by omega
      rw [hix, hj, if_neg h1, if_neg h2, if_neg h1, e]
      simp [consH]
theorem splitK_splL (c : UInt8) : ∀ l : List UInt8, Go.Lib.splitK [c] 0 (Go.Lib.count l [c]) l = splL c l
  | [] => by
    rw [Go.Lib.count_miss (by simp [Go.Lib.index])]
    rfl
  | b :: l => by
    unfold splL
    by_cases h : b = c
    · subst h
      have hix : Go.Lib.index (b :: l) [b] = ((0 : Nat) : Int) := by rw [Go.Lib.index]; simp [List.isPrefixOf]
      rw [if_pos rfl, Go.Lib.count_cons_eq, Nat.add_comm, Go.Lib.splitK, hix, if_neg (by decide), ← splitK_splL b l]
      simp
    · rw [if_neg h, Go.Lib.count_cons_ne b c l h, splitK_cons c b l h, splitK_splL c l]
theorem impl_split (c : UInt8) (s : ByteArray) (hs : s.size ≤ 1048576) : strings_Split.f s ⟨#[c]⟩ = some (splA c s) := by
  unfold strings_Split.f
  have e1 : (⟨#[c]⟩ : ByteArray).size = 1 := rfl
  rw [if_pos ⟨by omega, by rw [e1]; omega⟩]
  congr 1
  have h := Go.Lib.splitB_data ⟨#[c]⟩ 0 (Go.Lib.countB s ⟨#[c]⟩) s
  have h2 : Go.Lib.splitK [c] 0 (Go.Lib.countB s ⟨#[c]⟩) s.data.toList = splL c s.data.toList := splitK_splL c s.data.toList
  have h3 : (Go.Lib.splitB ⟨#[c]⟩ 0 (Go.Lib.countB s ⟨#[c]⟩) s).map (·.data.toList) = splL c s.data.toList := h.trans h2
  unfold splA
  rw [← h3, List.map_map]
  conv => lhs; rw [← List.map_id (Go.Lib.splitB ⟨#[c]⟩ 0 (Go.Lib.countB s ⟨#[c]⟩) s)]
  refine List.map_congr_left fun x _ => ?_
  exact (ofL_self x).symm
/-- The reference's pieces are these. -/
theorem ext_ofL (s : ByteArray) (a b : Nat) : s.extract a b = ofL ((s.data.toList.drop a).take (b - a)) := by
  rw [← ofL_self (s.extract a b), Go.Lib.extract_data]
theorem bt_data (s : ByteArray) (i : Nat) (h : i < s.data.toList.length) : bt s (i : Int) = ((s.data.toList[i]).toNat : Int) := by
  have h2 : ((i : Int)).toNat < s.size := by rw [len_data] at h; simpa using h
  rw [← bt_at s (i : Int) h2]
  simp [ByteArray.getElem_eq_getElem_data]
theorem bt_one (c : UInt8) : bt ⟨#[c]⟩ 0 = (c.toNat : Int) := bt_data ⟨#[c]⟩ 0 (by simp)
theorem spec_split_l0 (c : UInt8) (s : ByteArray) (hs : s.size ≤ 1048576) : ∀ (d i a : Nat) (P : List ByteArray), s.size - i = d → a ≤ i → i ≤ s.size → P.length ≤ i →
    Ev (fun k => spec_SplitAny.l0 k s ⟨#[c]⟩ P (a : Int) (i : Int)) (P ++ (consL ((s.data.toList.drop a).take (i - a)) (splL c (s.data.toList.drop i))).map ofL)
  | 0, i, a, P, hd, ha, hi, hp => by
    have e : i = s.size := by omega
    subst e
    refine ev_up ?_
    have hn : s.data.toList.drop s.size = [] := List.drop_eq_nil_of_le (by rw [len_data]; omega)
    simp only [spec_SplitAny.l0, if_neg (show ¬ ((s.size : Int) < s.size) by omega), if_pos (show 0 ≤ (a : Int) by omega), if_pos (show (a : Int) ≤ s.size by omega), if_pos (show P.length < 8796093022208 by omega), hn, Int.toNat_natCast, ext_ofL s a s.size]
    simp only [splL, consL, List.append_nil, List.map_cons, List.map_nil]
    exact Ev.now _
  | d + 1, i, a, P, hd, ha, hi, hp => by
    have hl : i < s.data.toList.length := by rw [len_data]; omega
    have e1 : (⟨#[c]⟩ : ByteArray).size = 1 := rfl
    have hdr : s.data.toList.drop i = s.data.toList[i] :: s.data.toList.drop (i + 1) := List.drop_eq_getElem_cons hl
    have w1 : wrap64 ((i : Int) + 1) = ((i + 1 : Nat) : Int) := by rw [pw_wrap (by omega) (by omega)]; omega
    have w2 : wrap64 ((0 : Int) + 1) = 1 := by rw [pw_wrap (by omega) (by omega)]; omega
    have hb := bt_data s i hl
    refine ev_up ?_
    simp only [spec_SplitAny.l0, if_pos (show (i : Int) < s.size by omega)]
    refine ev_up ?_
    simp only [spec_SplitAny.l1, e1, if_pos (show (0 : Int) < ((1 : Nat) : Int) by omega), if_pos (show 0 ≤ (i : Int) by omega), if_pos (show (i : Int) < s.size by omega), if_pos (Int.le_refl 0), hb, bt_one, w1, w2]
    by_cases hc : s.data.toList[i] = c
    · have ih := spec_split_l0 c s hs d (i + 1) (i + 1) (P ++ [ofL ((s.data.toList.drop a).take (i - a))]) (by omega) (Nat.le_refl _) (by omega) (by simp; omega)
      simp only [if_pos (show ((s.data.toList[i].toNat : Nat) : Int) = (c.toNat : Int) by rw [hc]), if_pos (show 0 ≤ (a : Int) by omega), if_pos (show (a : Int) ≤ (i : Int) by omega), if_pos (show (i : Int) ≤ s.size by omega), if_pos (show P.length < 8796093022208 by omega), Int.toNat_natCast, ext_ofL s a i]
      rw [hdr, splL, if_pos hc]
      rw [Nat.sub_self, List.take_zero, consL_nil _ (splL_ne _ _)] at ih
      simpa [consL] using ih
    · have ih := spec_split_l0 c s hs d (i + 1) a P (by omega) (by omega) (by omega) (by omega)
      have hne : ¬ ((s.data.toList[i].toNat : Nat) : Int) = (c.toNat : Int) := fun e => hc (UInt8.toNat_inj.1 (by omega))
      simp only [if_neg hne]
      refine ev_up ?_
      simp only [spec_SplitAny.l1, e1, if_neg (show ¬ (1 : Int) < ((1 : Nat) : Int) by omega), w1]
      rw [hdr, splL, if_neg hc, ← consL_snoc]
      have ht : (s.data.toList.drop a).take (i + 1 - a) = (s.data.toList.drop a).take (i - a) ++ [s.data.toList[i]] := by
        rw [show i + 1 - a = (i - a) + 1 by omega, List.take_succ_eq_append_getElem (by rw [List.length_drop]; omega)]
        congr 2
        rw [List.getElem_drop]
        congr 1
        omega
      rw [← ht]
      exact ih
theorem spec_split (c : UInt8) (s : ByteArray) (hs : s.size ≤ 1048576) : Ev (fun k => spec_SplitAny.f k s ⟨#[c]⟩) (splA c s) := by
  have := spec_split_l0 c s hs s.size 0 0 [] (by omega) (Nat.le_refl _) (by omega) (by simp)
  rw [Nat.sub_self, List.take_zero, List.drop_zero, consL_nil _ (splL_ne _ _)] at this
  exact this

/-! Numbers out of texts. -/
theorem wrap_rng (x : Int) : -9223372036854775808 ≤ wrap64 x ∧ wrap64 x ≤ 9223372036854775807 := by
  unfold wrap64
  omega
theorem isdig_any (s : ByteArray) (hs : s.size ≤ 1048576) : ∀ (d i : Nat), s.size - i = d → ∃ b, Ev (fun k => spec_IsDigits.l0 k s (i : Int)) b
  | 0, i, hd => by
    refine ⟨decide ((s.size : Int) > 0), ev_up ?_⟩
    simp only [spec_IsDigits.l0, if_neg (show ¬ ((i : Int) < s.size) by omega)]
    exact Ev.now _
  | d + 1, i, hd => by
    have w1 : wrap64 ((i : Int) + 1) = ((i + 1 : Nat) : Int) := by rw [pw_wrap (by omega) (by omega)]; omega
    obtain ⟨b, hb⟩ := isdig_any s hs d (i + 1) (by omega)
    by_cases h1 : bt s (i : Int) < 48
    · refine ⟨false, ev_up ?_⟩
      simp only [spec_IsDigits.l0, if_pos (show ((i : Int) < s.size) by omega), if_pos (show 0 ≤ (i : Int) by omega), if_pos h1]
      exact Ev.now _
    · by_cases h2 : bt s (i : Int) > 57
      · refine ⟨false, ev_up ?_⟩
        simp only [spec_IsDigits.l0, if_pos (show ((i : Int) < s.size) by omega), if_pos (show 0 ≤ (i : Int) by omega), if_neg h1, if_pos h2]
        exact Ev.now _
      · refine ⟨b, ev_up ?_⟩
        simp only [spec_IsDigits.l0, if_pos (show ((i : Int) < s.size) by omega), if_pos (show 0 ≤ (i : Int) by omega), if_neg h1, if_neg h2, w1]
        exact hb
theorem isdig_yes (s : ByteArray) (hs : s.size ≤ 1048576) (h0 : 0 < s.size) : ∀ (d i : Nat), s.size - i = d → (∀ j : Nat, i ≤ j → j < s.size → 48 ≤ bt s (j : Int) ∧ bt s (j : Int) ≤ 57) → Ev (fun k => spec_IsDigits.l0 k s (i : Int)) true
  | 0, i, hd, _ => by
    refine ev_up ?_
    simp only [spec_IsDigits.l0, if_neg (show ¬ ((i : Int) < s.size) by omega), decide_eq_true (show (s.size : Int) > 0 by omega)]
    exact Ev.now _
  | d + 1, i, hd, h => by
    have w1 : wrap64 ((i : Int) + 1) = ((i + 1 : Nat) : Int) := by rw [pw_wrap (by omega) (by omega)]; omega
    have hb := h i (Nat.le_refl _) (by omega)
    have ih := isdig_yes s hs h0 d (i + 1) (by omega) (fun j h1 h2 => h j (by omega) h2)
    refine ev_up ?_
    simp only [spec_IsDigits.l0, if_pos (show ((i : Int) < s.size) by omega), if_pos (show 0 ≤ (i : Int) by omega), if_neg (show ¬ bt s (i : Int) < 48 by omega), if_neg (show ¬ bt s (i : Int) > 57 by omega), w1]
    exact ih
theorem fmt_or (s : ByteArray) (n : Int) (h : -9223372036854775808 ≤ n ∧ n ≤ 9223372036854775807) : Ev (fun k => (spec_FormatInt.f k n).bind fun t => if t.toList = s.toList then some (n, true) else some ((0 : Int), false)) (if (itoaB n).toList = s.toList then (n, true) else (0, false)) := by
  refine Ev.bind (spec_fmtint h.1 h.2) ?_
  by_cases e : (itoaB n).toList = s.toList
  · simp only [if_pos e]
    exact Ev.now _
  · simp only [if_neg e]
    exact Ev.now _
theorem pint_l0_any (s t : ByteArray) (neg : Bool) (hs : t.size ≤ 1048576) : ∀ (d i : Nat) (n : Int), t.size - i = d → (-9223372036854775808 ≤ n ∧ n ≤ 9223372036854775807) → ∃ v, Ev (fun k => spec_ParseInt.l0 k s neg t n (i : Int)) v
  | 0, i, n, hd, hn => by
    cases neg with
    | true =>
      refine ⟨if (itoaB n).toList = s.toList then (n, true) else (0, false), ev_up ?_⟩
      simp only [spec_ParseInt.l0, if_neg (show ¬ ((i : Int) < t.size) by omega), if_true]
      exact fmt_or s n hn
    | false =>
      by_cases h : n = -9223372036854775808
      · refine ⟨(0, false), ev_up ?_⟩
        simp only [spec_ParseInt.l0, if_neg (show ¬ ((i : Int) < t.size) by omega), if_pos h, Bool.false_eq_true, if_false]
        exact Ev.now _
      · refine ⟨if (itoaB (wrap64 (-n))).toList = s.toList then (wrap64 (-n), true) else (0, false), ev_up ?_⟩
        simp only [spec_ParseInt.l0, if_neg (show ¬ ((i : Int) < t.size) by omega), if_neg h, Bool.false_eq_true, if_false]
        exact fmt_or s _ (wrap_rng _)
  | d + 1, i, n, hd, hn => by
    have w1 : wrap64 ((i : Int) + 1) = ((i + 1 : Nat) : Int) := by rw [pw_wrap (by omega) (by omega)]; omega
    by_cases h : n < (wrap64 (Int.tdiv (wrap64 ((-9223372036854775808) + (wrap64 ((wrap64 (bt t (i : Int))) - 48)))) 10))
    · refine ⟨(0, false), ev_up ?_⟩
      simp only [spec_ParseInt.l0, if_pos (show ((i : Int) < t.size) by omega), if_pos (show 0 ≤ (i : Int) by omega), if_pos h]
      exact Ev.now _
    · obtain ⟨v, hv⟩ := pint_l0_any s t neg hs d (i + 1) (wrap64 ((wrap64 (n * 10)) - (wrap64 ((wrap64 (bt t (i : Int))) - 48)))) (by omega) (wrap_rng _)
      refine ⟨v, ev_up ?_⟩
      simp only [spec_ParseInt.l0, if_pos (show ((i : Int) < t.size) by omega), if_pos (show 0 ≤ (i : Int) by omega), if_neg h, w1]
      exact hv
theorem pint_j1_any (s t : ByteArray) (neg : Bool) (hs : t.size ≤ 1048576) : ∃ v, Ev (fun k => spec_ParseInt.j1 k s neg t) v := by
  obtain ⟨b, hb⟩ := isdig_any t hs t.size 0 (by omega)
  have key : ∀ c : Bool, ∃ v, Ev (fun k => spec_ParseInt.j2 k s neg t c) v := by
    intro c
    cases c with
    | true =>
      refine ⟨(0, false), ev_up ?_⟩
      simp only [spec_ParseInt.j2, if_true]
      exact Ev.now _
    | false =>
      obtain ⟨v, hv⟩ := pint_l0_any s t neg hs t.size 0 0 (by omega) (by omega)
      refine ⟨v, ev_up ?_⟩
      simp only [spec_ParseInt.j2, Bool.false_eq_true, if_false]
      exact hv
  cases b with
  | true =>
    obtain ⟨v, hv⟩ := key (decide ((t.size : Int) > 19))
    refine ⟨v, ev_up ?_⟩
    simp only [spec_ParseInt.j1]
    exact Ev.bind (show Ev (fun k => spec_IsDigits.f k t) _ from hb) (by simpa using hv)
  | false =>
    obtain ⟨v, hv⟩ := key true
    refine ⟨v, ev_up ?_⟩
    simp only [spec_ParseInt.j1]
    exact Ev.bind (show Ev (fun k => spec_IsDigits.f k t) _ from hb) (by simpa using hv)
theorem pint_any (s : ByteArray) (hs : s.size ≤ 1048576) : ∃ v, Ev (fun k => spec_ParseInt.f k s) v := by
  unfold spec_ParseInt.f
  have key : ∀ c : Bool, (c = true → 0 < s.size) → ∃ v, Ev (fun k => spec_ParseInt.j0 k s c) v := by
    intro c hc
    cases c with
    | true =>
      obtain ⟨v, hv⟩ := pint_j1_any s (s.extract 1 s.size) true (by rw [ByteArray.size_extract]; omega)
      refine ⟨v, ev_up ?_⟩
      have := hc rfl
      simp only [spec_ParseInt.j0, if_true, if_pos (show 1 ≤ (s.size : Int) by omega)]
      exact hv
    | false =>
      obtain ⟨v, hv⟩ := pint_j1_any s s false hs
      refine ⟨v, ev_up ?_⟩
      simp only [spec_ParseInt.j0, Bool.false_eq_true, if_false]
      exact hv
  by_cases h : (s.size : Int) > 0
  · simp only [if_pos h, if_pos (show 0 < (s.size : Int) from h)]
    exact key _ (fun _ => by omega)
  · simp only [if_neg h]
    exact key false (fun h => by simp at h)
/-- The digits of a small number. -/
theorem itoa_one {x : Int} (h0 : 0 ≤ x) (h1 : x < 10) : Go.Lib.itoa x = [UInt8.ofNat (48 + x.toNat)] := by
  unfold Go.Lib.itoa
  rw [if_neg (by omega), Go.Lib.decDigits, dif_pos (by omega)]
theorem itoa_two {x : Int} (h0 : 10 ≤ x) (h1 : x < 100) : Go.Lib.itoa x = [UInt8.ofNat (48 + x.toNat / 10), UInt8.ofNat (48 + x.toNat % 10)] := by
  unfold Go.Lib.itoa
  rw [if_neg (by omega), Go.Lib.decDigits, dif_neg (by omega), Go.Lib.decDigits, dif_pos (by omega)]
  rfl
theorem dig_nat {n : Nat} (h : n < 10) : (UInt8.ofNat (48 + n)).toNat = 48 + n := by
  rw [UInt8.toNat_ofNat']
  omega
theorem itoa_dig {x : Int} (h0 : 0 ≤ x) (h1 : x < 100) : ∀ b ∈ Go.Lib.itoa x, 48 ≤ b.toNat ∧ b.toNat ≤ 57 := by
  intro b hb
  by_cases h : x < 10
  · rw [itoa_one h0 h, List.mem_singleton] at hb
    subst hb
    rw [dig_nat (by omega)]
    omega
  · rw [itoa_two (by omega) h1] at hb
    simp only [List.mem_cons, List.not_mem_nil, or_false] at hb
    rcases hb with rfl | rfl
    · rw [dig_nat (by omega)]
      omega
    · rw [dig_nat (by omega)]
      omega
theorem bt_itoa {x : Int} (i : Nat) (h : i < (Go.Lib.itoa x).length) : bt (itoaB x) (i : Int) = (((Go.Lib.itoa x)[i]).toNat : Int) := by
  have h2 : i < (itoaB x).data.toList.length := by show i < (Go.Lib.itoa x).toArray.toList.length; simpa using h
  rw [bt_data (itoaB x) i h2]
  congr 1
theorem pint_step (s t : ByteArray) (ht : t.size ≤ 100) (i : Nat) (hi : i < t.size) (n c : Int) (hn : -100 ≤ n ∧ n ≤ 0) (hc : bt t (i : Int) = c) (hc2 : 48 ≤ c ∧ c ≤ 57) (v : Int × Bool) (h : Ev (fun k => spec_ParseInt.l0 k s false t (n * 10 - (c - 48)) ((i + 1 : Nat) : Int)) v) : Ev (fun k => spec_ParseInt.l0 k s false t n (i : Int)) v := by
  have w1 : wrap64 ((i : Int) + 1) = ((i + 1 : Nat) : Int) := by rw [pw_wrap (by omega) (by omega)]; omega
  have w2 : wrap64 c = c := pw_wrap (by omega) (by omega)
  have w3 : wrap64 (c - 48) = c - 48 := pw_wrap (by omega) (by omega)
  have w4 : wrap64 (-9223372036854775808 + (c - 48)) = -9223372036854775808 + (c - 48) := pw_wrap (by omega) (by omega)
  have w5 : wrap64 (n * 10) = n * 10 := pw_wrap (by omega) (by omega)
  have w6 : wrap64 (n * 10 - (c - 48)) = n * 10 - (c - 48) := pw_wrap (by omega) (by omega)
  have hd : Int.tdiv (-9223372036854775808 + (c - 48)) 10 ≤ -100000 ∧ -9223372036854775808 ≤ Int.tdiv (-9223372036854775808 + (c - 48)) 10 := by
    rw [show (-9223372036854775808 + (c - 48) : Int) = -(9223372036854775808 - (c - 48)) by omega, Int.neg_tdiv, Int.tdiv_eq_ediv_of_nonneg (by omega)]
    omega
  have w7 : wrap64 (Int.tdiv (-9223372036854775808 + (c - 48)) 10) = Int.tdiv (-9223372036854775808 + (c - 48)) 10 := pw_wrap (by omega) (by omega)
  refine ev_up ?_
  simp only [spec_ParseInt.l0, if_pos (show ((i : Int) < t.size) by omega), if_pos (show 0 ≤ (i : Int) by omega), hc, w1, w2, w3, w4, w5, w6, w7, if_neg (show ¬ n < Int.tdiv (-9223372036854775808 + (c - 48)) 10 by omega)]
  exact h
theorem pint_stop (x : Int) (h0 : 0 ≤ x) (h1 : x < 100) (t : ByteArray) (i : Nat) (hi : t.size = i) : Ev (fun k => spec_ParseInt.l0 k (itoaB x) false t (-x) (i : Int)) (x, true) := by
  have w : wrap64 (- -x) = x := by rw [Int.neg_neg]; exact pw_wrap (by omega) (by omega)
  refine ev_up ?_
  simp only [spec_ParseInt.l0, if_neg (show ¬ ((i : Int) < t.size) by omega), if_neg (show ¬ (-x = -9223372036854775808) by omega), Bool.false_eq_true, if_false, w]
  have := fmt_or (itoaB x) x (by omega)
  rw [if_pos rfl] at this
  exact this
theorem pint_small (x : Int) (h0 : 0 ≤ x) (h1 : x < 100) : Ev (fun k => spec_ParseInt.f k (itoaB x)) (x, true) := by
  have hz : (itoaB x).size = (Go.Lib.itoa x).length := by show (Go.Lib.itoa x).toArray.size = _; simp
  have hd := itoa_dig h0 h1
  have hlen : 1 ≤ (Go.Lib.itoa x).length ∧ (Go.Lib.itoa x).length ≤ 2 := by
    by_cases h : x < 10
    · rw [itoa_one h0 h]; simp
    · rw [itoa_two (by omega) h1]; simp
  have hb : ∀ j : Nat, j < (itoaB x).size → 48 ≤ bt (itoaB x) (j : Int) ∧ bt (itoaB x) (j : Int) ≤ 57 := by
    intro j hj
    rw [hz] at hj
    rw [bt_itoa j hj]
    have := hd _ (List.getElem_mem hj)
    omega
  have hdg := isdig_yes (itoaB x) (by omega) (by omega) (itoaB x).size 0 (by omega) (fun j _ h2 => hb j h2)
  have hl0 : Ev (fun k => spec_ParseInt.l0 k (itoaB x) false (itoaB x) 0 0) (x, true) := by
    by_cases h : x < 10
    · have e := itoa_one h0 h
      have b0 : bt (itoaB x) ((0 : Nat) : Int) = 48 + x := by
        rw [bt_itoa 0 (by omega)]
        simp only [e, List.getElem_cons_zero, dig_nat (show x.toNat < 10 by omega)]
        omega
      refine pint_step _ _ (by omega) 0 (by omega) 0 _ (by omega) b0 (by omega) _ ?_
      rw [show (0 : Int) * 10 - (48 + x - 48) = -x by omega]
      exact pint_stop x h0 h1 _ 1 (by rw [hz, e]; rfl)
    · have e := itoa_two (show 10 ≤ x by omega) h1
      have b0 : bt (itoaB x) ((0 : Nat) : Int) = 48 + x / 10 := by
        rw [bt_itoa 0 (by omega)]
        simp only [e, List.getElem_cons_zero, dig_nat (show x.toNat / 10 < 10 by omega)]
        omega
      have b1 : bt (itoaB x) ((1 : Nat) : Int) = 48 + x % 10 := by
        rw [bt_itoa 1 (by rw [e]; simp)]
        simp only [e, List.getElem_cons_succ, List.getElem_cons_zero, dig_nat (show x.toNat % 10 < 10 by omega)]
        omega
      have hs2 : (itoaB x).size = 2 := by rw [hz, e]; rfl
      refine pint_step _ _ (by omega) 0 (by omega) 0 _ (by omega) b0 (by omega) _ ?_
      refine pint_step _ _ (by omega) 1 (by omega) _ _ (by omega) b1 (by omega) _ ?_
      rw [show ((0 : Int) * 10 - (48 + x / 10 - 48)) * 10 - (48 + x % 10 - 48) = -x by omega]
      exact pint_stop x h0 h1 _ 2 hs2
  unfold spec_ParseInt.f
  have h45 : (bt (itoaB x) 0 == 45) = false := by
    rw [beq_eq_false_iff_ne]
    have := hb 0 (by omega)
    intro e
    rw [show ((0 : Nat) : Int) = 0 from rfl, e] at this
    omega
  simp only [if_pos (show ((itoaB x).size : Int) > 0 by omega), if_pos (show 0 < ((itoaB x).size : Int) by omega), h45]
  refine ev_up ?_
  simp only [spec_ParseInt.j0, Bool.false_eq_true, if_false]
  refine ev_up ?_
  simp only [spec_ParseInt.j1]
  refine Ev.bind (show Ev (fun k => spec_IsDigits.f k (itoaB x)) _ from hdg) ?_
  simp only [if_true, decide_eq_false (show ¬ ((itoaB x).size : Int) > 19 by omega)]
  refine ev_up ?_
  simp only [spec_ParseInt.j2, Bool.false_eq_true, if_false]
  exact hl0
/-- The program's. -/
theorem atoi_one : ∀ a : Fin 10, Go.Lib.atoi [UInt8.ofNat (48 + a.val)] = some (a.val : Int) := by decide
theorem atoi_two : ∀ a b : Fin 10, Go.Lib.atoi [UInt8.ofNat (48 + a.val), UInt8.ofNat (48 + b.val)] = some ((a.val * 10 + b.val : Nat) : Int) := by decide
theorem atoi_small {x : Int} (h0 : 0 ≤ x) (h1 : x < 100) : Go.Lib.atoiAll (Go.Lib.itoa x) = .ok x := by
  by_cases h : x < 10
  · rw [itoa_one h0 h, Go.Lib.atoiAll_short _ (by simp), atoi_one ⟨x.toNat, by omega⟩]
    show Go.Lib.NumEnd.ok _ = _
    congr 1
    simp only
    omega
  · rw [itoa_two (by omega) h1, Go.Lib.atoiAll_short _ (by simp), atoi_two ⟨x.toNat / 10, by omega⟩ ⟨x.toNat % 10, by omega⟩]
    show Go.Lib.NumEnd.ok _ = _
    congr 1
    simp only
    omega
theorem impl_pint (s : ByteArray) (hs : s.size ≤ 1048576) : impl_ParseInt.f s = some (pIntOf s) := by
  unfold impl_ParseInt.f
  rw [if_pos (by omega)]
theorem pIntOf_small {x : Int} (h0 : 0 ≤ x) (h1 : x < 100) : pIntOf (itoaB x) = (x, true) := by
  have e : (itoaB x).data.toList = Go.Lib.itoa x := by simp [itoaB]
  unfold pIntOf
  rw [e, atoi_small h0 h1]
  simp
/-- Rows of numbers. -/
theorem nums_any (l : List ByteArray) (hl : l.length ≤ 1048577) (h : ∀ x ∈ l, x.size ≤ 1048576) : ∀ (suf pre : List ByteArray) (acc : List Int), l = pre ++ suf → acc.length = pre.length → ∃ v : List Int × Bool, (v.2 = true → v.1.length = l.length) ∧ v.1.length ≤ l.length ∧ Ev (fun k => spec_l17Numbers.l0 k acc l (l.length : Int) (pre.length : Int)) v
  | [], pre, acc, e, ha => by
    have e2 : l = pre := by simpa using e
    subst e2
    refine ⟨(acc, true), fun _ => ha, Nat.le_of_eq ha, ev_up ?_⟩
    simp only [spec_l17Numbers.l0, if_neg (show ¬ ((l.length : Int) < l.length) by omega)]
    exact Ev.now _
  | x :: suf, pre, acc, e, ha => by
    have hlen : l.length = pre.length + suf.length + 1 := by rw [e]; simp; omega
    have hx : rdOf ByteArray.empty l (pre.length : Int) = x := by rw [e]; simp [rdOf, List.getD]
    have hw : wrap64 ((pre.length : Int) + 1) = ((pre ++ [x]).length : Int) := by rw [pw_wrap (by omega) (by omega)]; simp
    obtain ⟨⟨n, b⟩, hv⟩ := pint_any x (h x (by rw [e]; simp))
    cases b with
    | true =>
      obtain ⟨v, h1, h3, h2⟩ := nums_any l hl h suf (pre ++ [x]) (acc ++ [n]) (by simp [e]) (by simp [ha])
      refine ⟨v, h1, h3, ev_up ?_⟩
      simp only [spec_l17Numbers.l0, if_pos (show ((pre.length : Int) < l.length) by omega), if_pos (show (0 ≤ (pre.length : Int)) by omega), hx, hw]
      refine Ev.bind hv ?_
      simp only [if_true, if_pos (show acc.length < 17592186044416 by omega)]
      exact h2
    | false =>
      refine ⟨([], false), fun h => by simp at h, Nat.zero_le _, ev_up ?_⟩
      simp only [spec_l17Numbers.l0, if_pos (show ((pre.length : Int) < l.length) by omega), if_pos (show (0 ≤ (pre.length : Int)) by omega), hx]
      refine Ev.bind hv ?_
      simp only [Bool.false_eq_true, if_false]
      exact Ev.now _
theorem nums_small (m : List Int) (hm : m.length ≤ 1048577) (h : ∀ x ∈ m, 0 ≤ x ∧ x < 100) : ∀ (suf pre : List Int), m = pre ++ suf → Ev (fun k => spec_l17Numbers.l0 k pre (m.map itoaB) ((m.map itoaB).length : Int) (pre.length : Int)) (m, true)
  | [], pre, e => by
    have e2 : m = pre := by simpa using e
    subst e2
    refine ev_up ?_
    simp only [spec_l17Numbers.l0, if_neg (show ¬ ((m.length : Int) < (m.map itoaB).length) by simp)]
    exact Ev.now _
  | x :: suf, pre, e => by
    have hlen : m.length = pre.length + suf.length + 1 := by rw [e]; simp; omega
    have hll : (m.map itoaB).length = m.length := by simp
    have hx : rdOf ByteArray.empty (m.map itoaB) (pre.length : Int) = itoaB x := by rw [e]; simp [rdOf, List.getD]
    have hw : wrap64 ((pre.length : Int) + 1) = ((pre ++ [x]).length : Int) := by rw [pw_wrap (by omega) (by omega)]; simp
    have hxm := h x (by rw [e]; simp)
    have ih := nums_small m hm h suf (pre ++ [x]) (by simp [e])
    refine ev_up ?_
    simp only [spec_l17Numbers.l0, if_pos (show ((pre.length : Int) < (m.map itoaB).length) by omega), if_pos (show (0 ≤ (pre.length : Int)) by omega), hx, hw]
    refine Ev.bind (pint_small x hxm.1 hxm.2) ?_
    simp only [if_true, if_pos (show pre.length < 17592186044416 by omega)]
    exact ih
/-- The numbers of a text that is cut at ','. -/
def intsOf (s : ByteArray) : List Int := (splA 44 s).map fun p => (pIntOf p).1
theorem impl_ints_l0 (l : List ByteArray) (hl : l.length ≤ 1048577) (h : ∀ x ∈ l, x.size ≤ 1048576) : ∀ (suf pre : List ByteArray), l = pre ++ suf → Ev (fun k => impl_parseInts.l0 k (pre.map fun p => (pIntOf p).1) l (l.length : Int) (pre.length : Int)) (l.map fun p => (pIntOf p).1)
  | [], pre, e => by
    have e2 : l = pre := by simpa using e
    subst e2
    refine ev_up ?_
    simp only [impl_parseInts.l0, if_neg (show ¬ ((l.length : Int) < l.length) by omega)]
    exact Ev.now _
  | x :: suf, pre, e => by
    have hlen : l.length = pre.length + suf.length + 1 := by rw [e]; simp; omega
    have hx : rdOf ByteArray.empty l (pre.length : Int) = x := by rw [e]; simp [rdOf, List.getD]
    have hw : wrap64 ((pre.length : Int) + 1) = ((pre ++ [x]).length : Int) := by rw [pw_wrap (by omega) (by omega)]; simp
    have ih := impl_ints_l0 l hl h suf (pre ++ [x]) (by simp [e])
    refine ev_up ?_
    simp only [impl_parseInts.l0, if_pos (show ((pre.length : Int) < l.length) by omega), if_pos (show (0 ≤ (pre.length : Int)) by omega), hx, hw, impl_pint x (h x (by rw [e]; simp)), Option.bind_some, List.length_map, if_pos (show pre.length < 17592186044416 by omega)]
    rw [List.map_append] at ih
    exact ih
theorem impl_intsOf (s : ByteArray) (hs : s.size ≤ 1048576) : Ev (fun k => impl_parseInts.f k s) (intsOf s) := by
  obtain ⟨h1, h2, h3⟩ := splA_side 44 s
  unfold impl_parseInts.f
  simp only [impl_split 44 s hs, Option.bind_some]
  exact impl_ints_l0 (splA 44 s) (by omega) (fun x hx => by have := h3 x hx; omega) (splA 44 s) [] rfl
theorem no_sep {x : Int} (h0 : 0 ≤ x) (h1 : x < 100) (c : UInt8) (hc : c.toNat < 48 ∨ 57 < c.toNat) : c ∉ Go.Lib.itoa x := fun h => by
  have := itoa_dig h0 h1 c h
  omega

theorem ev_one {α : Type} {f : Nat → Option α} {a b : α} (h : Ev f a) (h2 : Ev f b) : a = b := by
  obtain ⟨n, hn⟩ := h
  obtain ⟨m, hm⟩ := h2
  have e1 := hn (max n m) (by omega)
  have e2 := hm (max n m) (by omega)
  exact Option.some.inj (e1.symm.trans e2)
theorem toList_inj {b c : ByteArray} (h : b.toList = c.toList) : b = c := by
  rw [toList_eq, toList_eq] at h
  rw [← ofL_self b, ← ofL_self c, h]
theorem joinOf_data (l : List ByteArray) (sep : ByteArray) : (joinOf l sep).data.toList = Go.Lib.join (l.map (·.data.toList)) sep.data.toList := by
  simp [joinOf, joinB]
theorem splA_join (c : UInt8) (l : List ByteArray) (h : l ≠ []) (hc : ∀ x ∈ l, c ∉ x.data.toList) : splA c (joinOf l ⟨#[c]⟩) = l := by
  unfold splA
  rw [joinOf_data]
  have e : (⟨#[c]⟩ : ByteArray).data.toList = [c] := rfl
  rw [e, splL_join c _ (by simpa using h) (by simpa using hc), List.map_map]
  conv => rhs; rw [← List.map_id l]
  exact List.map_congr_left fun x _ => ofL_self x
theorem cellB_data (c : Cl) : (cellB c).data.toList = Go.Lib.itoa c.f0 ++ 44 :: Go.Lib.itoa c.f1 := by
  simp [cellB, itoaB, ByteArray.data_append]
theorem cellB_no {c : Cl} (h : 0 ≤ c.f0 ∧ c.f0 ≤ 9 ∧ 0 ≤ c.f1 ∧ c.f1 ≤ 9) : (32 : UInt8) ∉ (cellB c).data.toList := by
  rw [cellB_data]
  intro hm
  rcases List.mem_append.1 hm with hm | hm
  · exact no_sep (x := c.f0) (by omega) (by omega) 32 (by decide) hm
  · rcases List.mem_cons.1 hm with hm | hm
    · exact absurd hm (by decide)
    · exact no_sep (x := c.f1) (by omega) (by omega) 32 (by decide) hm
theorem splA_cell {c : Cl} (h : 0 ≤ c.f0 ∧ c.f0 ≤ 9 ∧ 0 ≤ c.f1 ∧ c.f1 ≤ 9) : splA 44 (cellB c) = [c.f0, c.f1].map itoaB := by
  unfold splA
  rw [cellB_data, splL_cut 44 _ _ (no_sep (by omega) (by omega) 44 (by decide)), splL_self 44 _ (no_sep (by omega) (by omega) 44 (by decide))]
  rfl
def cellOf (p : ByteArray) : Cl := ⟨rd (intsOf p ++ [0]) 0, rd (intsOf p ++ [0]) 1⟩
theorem cellOf_cell {c : Cl} (h : 0 ≤ c.f0 ∧ c.f0 ≤ 9 ∧ 0 ≤ c.f1 ∧ c.f1 ≤ 9) : cellOf (cellB c) = c := by
  have e : intsOf (cellB c) = [c.f0, c.f1] := by
    unfold intsOf
    rw [splA_cell h]
    simp [pIntOf_small (x := c.f0) (by omega) (by omega), pIntOf_small (x := c.f1) (by omega) (by omega)]
  unfold cellOf
  rw [e]
  rfl
def ptGood (s : ByteArray) (v : List Cl × Bool) : Prop := v = ([], false) ∨ (v.2 = true ∧ tableB v.1 = true ∧ tableT v.1 = s)
theorem impl_pt_l0 (s : ByteArray) (l : List ByteArray) (hl : l.length ≤ 1048577) (h : ∀ x ∈ l, x.size ≤ 1048576) : ∀ (suf pre : List ByteArray), l = pre ++ suf →
    Ev (fun k => impl_ParseTable.l0 k s (pre.map cellOf) l (l.length : Int) (pre.length : Int)) (if s.toList = [] then ([], false) else if (tableT (l.map cellOf)).toList = s.toList then (l.map cellOf, true) else ([], false))
  | [], pre, e => by
    have e2 : l = pre := by simpa using e
    subst e2
    refine ev_up ?_
    simp only [impl_ParseTable.l0, if_neg (show ¬ ((l.length : Int) < l.length) by omega)]
    by_cases h0 : s.toList = []
    · simp only [if_pos h0]
      exact Ev.now _
    · simp only [if_neg h0]
      refine Ev.bind (impl_fmttable _) ?_
      by_cases h1 : (tableT (l.map cellOf)).toList = s.toList
      · simp only [if_pos h1]
        exact Ev.now _
      · simp only [if_neg h1]
        exact Ev.now _
  | x :: suf, pre, e => by
    have hlen : l.length = pre.length + suf.length + 1 := by rw [e]; simp; omega
    have hx : rdOf ByteArray.empty l (pre.length : Int) = x := by rw [e]; simp [rdOf, List.getD]
    have hw : wrap64 ((pre.length : Int) + 1) = ((pre ++ [x]).length : Int) := by rw [pw_wrap (by omega) (by omega)]; simp
    have hxs := h x (by rw [e]; simp)
    obtain ⟨z1, z2, _⟩ := splA_side 44 x
    have hil : (intsOf x).length = (splA 44 x).length := by simp [intsOf]
    have hil2 : (intsOf x ++ [0]).length = (splA 44 x).length + 1 := by simp [hil]
    have ih := impl_pt_l0 s l hl h suf (pre ++ [x]) (by simp [e])
    refine ev_up ?_
    simp only [impl_ParseTable.l0, if_pos (show ((pre.length : Int) < l.length) by omega), if_pos (show (0 ≤ (pre.length : Int)) by omega), hx, hw]
    refine Ev.bind (impl_intsOf x hxs) ?_
    simp only [if_pos (show (intsOf x).length < 17592186044416 by omega), Option.bind_some, if_pos (show 0 < ((intsOf x ++ [0]).length : Int) by omega), if_pos (show 1 < ((intsOf x ++ [0]).length : Int) by omega), List.length_map, if_pos (show pre.length < 8796093022208 by omega)]
    rw [List.map_append] at ih
    exact ih
theorem impl_pt (s : ByteArray) (hs : s.size ≤ 1048576) : Ev (fun k => impl_ParseTable.f k s) (if s.toList = [] then ([], false) else if (tableT ((splA 32 s).map cellOf)).toList = s.toList then ((splA 32 s).map cellOf, true) else ([], false)) := by
  obtain ⟨h1, h2, h3⟩ := splA_side 32 s
  unfold impl_ParseTable.f
  simp only [impl_split 32 s hs, Option.bind_some]
  exact impl_pt_l0 s (splA 32 s) (by omega) (fun x hx => by have := h3 x hx; omega) (splA 32 s) [] rfl
theorem tableT_nil {l : List Cl} (h : ¬ tableB l = true) : tableT l = ⟨#[]⟩ := by
  unfold tableT
  rw [if_neg h]
theorem impl_ptGood (s : ByteArray) (hs : s.size ≤ 1048576) : ∃ v, ptGood s v ∧ Ev (fun k => impl_ParseTable.f k s) v := by
  refine ⟨_, ?_, impl_pt s hs⟩
  by_cases h0 : s.toList = []
  · rw [if_pos h0]
    exact .inl rfl
  · rw [if_neg h0]
    by_cases h1 : (tableT ((splA 32 s).map cellOf)).toList = s.toList
    · rw [if_pos h1]
      have e := toList_inj h1
      refine .inr ⟨rfl, ?_, e⟩
      by_cases hb : tableB ((splA 32 s).map cellOf) = true
      · exact hb
      · exfalso
        apply h0
        rw [← e, tableT_nil hb, toList_eq]
    · rw [if_neg h1]
      exact .inl rfl
theorem near_cells {out : List Cl} (h : tableB out = true) : out ≠ [] ∧ out.length ≤ 6 ∧ splA 32 (tableT out) = out.map cellB ∧ tableT out = joinOf (out.map cellB) ⟨#[32]⟩ := by
  obtain ⟨h6, hn, _, _⟩ := tableB_side h
  have e : tableT out = joinOf (out.map cellB) ⟨#[32]⟩ := by
    unfold tableT
    rw [if_pos h]
  have hne : out ≠ [] := fun e => by rw [e] at h6; simp at h6
  refine ⟨hne, h6.2, ?_, e⟩
  rw [e]
  refine splA_join 32 _ (by simpa using hne) (fun x hx => ?_)
  obtain ⟨c, hc, rfl⟩ := List.mem_map.1 hx
  exact cellB_no (hn c hc)
theorem impl_ptYes (out : List Cl) (h : tableB out = true) : Ev (fun k => impl_ParseTable.f k (tableT out)) (out, true) := by
  have hz := tableT_size out
  obtain ⟨hne, h6, hs, e⟩ := near_cells h
  obtain ⟨_, hn, _, _⟩ := tableB_side h
  have hm : (splA 32 (tableT out)).map cellOf = out := by
    rw [hs, List.map_map]
    conv => rhs; rw [← List.map_id out]
    exact List.map_congr_left fun c hc => cellOf_cell (hn c hc)
  have := impl_pt (tableT out) (by omega)
  rw [hm] at this
  rw [if_pos rfl] at this
  by_cases h0 : (tableT out).toList = []
  · exfalso
    have e2 : tableT out = ⟨#[]⟩ := toList_inj (by rw [h0, toList_eq])
    rw [e2] at hs
    have : splA 32 (⟨#[]⟩ : ByteArray) = [⟨#[]⟩] := rfl
    rw [this] at hs
    cases out with
    | nil => exact hne rfl
    | cons c t =>
      simp only [List.map_cons, List.cons.injEq] at hs
      have h2 : (cellB c).data.toList = [] := by rw [← hs.1]
      rw [cellB_data] at h2
      simp at h2
  · rw [if_neg h0] at this
    exact this
theorem spec_pt_any (s : ByteArray) (l : List ByteArray) (hl : l.length ≤ 1048577) (h : ∀ x ∈ l, x.size ≤ 1048576) : ∀ (suf pre : List ByteArray) (acc : List Cl), l = pre ++ suf → acc.length = pre.length →
    ∃ v, ptGood s v ∧ Ev (fun k => spec_ParseTable.l0 k s acc l (l.length : Int) (pre.length : Int)) v
  | [], pre, acc, e, ha => by
    have e2 : l = pre := by simpa using e
    subst e2
    by_cases hb : tableB acc = true
    · by_cases h1 : (tableT acc).toList = s.toList
      · refine ⟨(acc, true), .inr ⟨rfl, hb, toList_inj h1⟩, ev_up ?_⟩
        simp only [spec_ParseTable.l0, if_neg (show ¬ ((l.length : Int) < l.length) by omega)]
        refine Ev.bind (spec_table acc) ?_
        simp only [if_pos hb]
        refine Ev.bind (spec_fmttable acc) ?_
        simp only [if_pos h1]
        exact Ev.now _
      · refine ⟨([], false), .inl rfl, ev_up ?_⟩
        simp only [spec_ParseTable.l0, if_neg (show ¬ ((l.length : Int) < l.length) by omega)]
        refine Ev.bind (spec_table acc) ?_
        simp only [if_pos hb]
        refine Ev.bind (spec_fmttable acc) ?_
        simp only [if_neg h1]
        exact Ev.now _
    · refine ⟨([], false), .inl rfl, ev_up ?_⟩
      simp only [spec_ParseTable.l0, if_neg (show ¬ ((l.length : Int) < l.length) by omega)]
      refine Ev.bind (spec_table acc) ?_
      simp only [if_neg hb]
      exact Ev.now _
  | x :: suf, pre, acc, e, ha => by
    have hlen : l.length = pre.length + suf.length + 1 := by rw [e]; simp; omega
    have hx : rdOf ByteArray.empty l (pre.length : Int) = x := by rw [e]; simp [rdOf, List.getD]
    have hw : wrap64 ((pre.length : Int) + 1) = ((pre ++ [x]).length : Int) := by rw [pw_wrap (by omega) (by omega)]; simp
    have hxs := h x (by rw [e]; simp)
    obtain ⟨z1, z2, z3⟩ := splA_side 44 x
    obtain ⟨⟨n, b⟩, _, _, hv⟩ := nums_any (splA 44 x) (by omega) (fun p hp => by have := z3 p hp; omega) (splA 44 x) [] [] rfl rfl
    have hv2 : Ev (fun k => spec_l17Numbers.f k (splA 44 x)) (n, b) := hv
    have no : ∀ (hbad : ¬ (b = true ∧ n.length = 2)), Ev (fun k => spec_ParseTable.l0 k s acc l (l.length : Int) (pre.length : Int)) ([], false) := by
      intro hbad
      refine ev_up ?_
      simp only [spec_ParseTable.l0, if_pos (show ((pre.length : Int) < l.length) by omega), if_pos (show (0 ≤ (pre.length : Int)) by omega), hx]
      refine Ev.bind (spec_split 44 x hxs) ?_
      refine Ev.bind hv2 ?_
      by_cases hb : b = true
      · simp only [if_pos hb, if_neg (show ¬ ((n.length : Int) = 2) from fun e => hbad ⟨hb, by omega⟩)]
        exact Ev.now _
      · simp only [if_neg hb]
        exact Ev.now _
    by_cases hgood : b = true ∧ n.length = 2
    · obtain ⟨v, g, h2⟩ := spec_pt_any s l hl h suf (pre ++ [x]) (acc ++ [(⟨rd n 0, rd n 1⟩ : Cl)]) (by simp [e]) (by simp [ha])
      refine ⟨v, g, ev_up ?_⟩
      simp only [spec_ParseTable.l0, if_pos (show ((pre.length : Int) < l.length) by omega), if_pos (show (0 ≤ (pre.length : Int)) by omega), hx, hw]
      refine Ev.bind (spec_split 44 x hxs) ?_
      refine Ev.bind hv2 ?_
      simp only [if_pos hgood.1, if_pos (show (n.length : Int) = 2 by omega), if_pos (show 0 < (n.length : Int) by omega), if_pos (show 1 < (n.length : Int) by omega), if_pos (show acc.length < 8796093022208 by omega)]
      exact h2
    · exact ⟨_, .inl rfl, no hgood⟩
theorem spec_ptGood (s : ByteArray) (hs : s.size ≤ 1048576) : ∃ v, ptGood s v ∧ Ev (fun k => spec_ParseTable.f k s) v := by
  obtain ⟨h1, h2, h3⟩ := splA_side 32 s
  obtain ⟨v, g, hv⟩ := spec_pt_any s (splA 32 s) (by omega) (fun x hx => by have := h3 x hx; omega) (splA 32 s) [] [] rfl rfl
  exact ⟨v, g, Ev.bind (spec_split 32 s hs) hv⟩
theorem spec_pt_yes (out : List Cl) (h : tableB out = true) : ∀ (suf pre : List Cl), out = pre ++ suf → Ev (fun k => spec_ParseTable.l0 k (tableT out) pre (out.map cellB) ((out.map cellB).length : Int) (pre.length : Int)) (out, true)
  | [], pre, e => by
    have e2 : out = pre := by simpa using e
    subst e2
    refine ev_up ?_
    simp only [spec_ParseTable.l0, if_neg (show ¬ ((out.length : Int) < (out.map cellB).length) by simp)]
    refine Ev.bind (spec_table out) ?_
    simp only [if_pos h]
    refine Ev.bind (spec_fmttable out) ?_
    simp only [if_true]
    exact Ev.now _
  | c :: suf, pre, e => by
    obtain ⟨h6, hn, _, _⟩ := tableB_side h
    have hlen : out.length = pre.length + suf.length + 1 := by rw [e]; simp; omega
    have hll : (out.map cellB).length = out.length := by simp
    have hx : rdOf ByteArray.empty (out.map cellB) (pre.length : Int) = cellB c := by rw [e]; simp [rdOf, List.getD]
    have hw : wrap64 ((pre.length : Int) + 1) = ((pre ++ [c]).length : Int) := by rw [pw_wrap (by omega) (by omega)]; simp
    have hc := hn c (by rw [e]; simp)
    have hz := (cellB_bd hc).2.2.2
    have ih := spec_pt_yes out h suf (pre ++ [c]) (by simp [e])
    refine ev_up ?_
    simp only [spec_ParseTable.l0, if_pos (show ((pre.length : Int) < (out.map cellB).length) by omega), if_pos (show (0 ≤ (pre.length : Int)) by omega), hx, hw]
    refine Ev.bind (spec_split 44 (cellB c) (by omega)) ?_
    rw [splA_cell hc]
    have hnum : Ev (fun k => spec_l17Numbers.f k ([c.f0, c.f1].map itoaB)) ([c.f0, c.f1], true) := nums_small [c.f0, c.f1] (by simp) (fun x hx => by
      simp only [List.mem_cons, List.not_mem_nil, or_false] at hx
      omega) [c.f0, c.f1] [] rfl
    refine Ev.bind hnum ?_
    simp only [if_true, if_pos (show ((([c.f0, c.f1] : List Int).length : Nat) : Int) = 2 from rfl), if_pos (show 0 < ((([c.f0, c.f1] : List Int).length : Nat) : Int) by simp), if_pos (show 1 < ((([c.f0, c.f1] : List Int).length : Nat) : Int) by simp), if_pos (show pre.length < 8796093022208 by omega)]
    exact ih
theorem spec_ptYes (out : List Cl) (h : tableB out = true) : Ev (fun k => spec_ParseTable.f k (tableT out)) (out, true) := by
  have hz := tableT_size out
  obtain ⟨_, _, hs, _⟩ := near_cells h
  refine Ev.bind (spec_split 32 _ (by omega)) ?_
  rw [hs]
  exact spec_pt_yes out h out [] rfl
theorem pt_both (s : ByteArray) (hs : s.size ≤ 1048576) : ∃ v : List Cl × Bool, v.1.length ≤ 6 ∧ Ev (fun k => spec_ParseTable.f k s) v ∧ Ev (fun k => impl_ParseTable.f k s) v := by
  obtain ⟨v, g, hv⟩ := spec_ptGood s hs
  obtain ⟨u, gu, hu⟩ := impl_ptGood s hs
  rcases g with rfl | ⟨g1, g2, g3⟩
  · rcases gu with rfl | ⟨k1, k2, k3⟩
    · exact ⟨_, by simp, hv, hu⟩
    · have := spec_ptYes u.1 k2
      rw [k3] at this
      have e := ev_one hv this
      simp at e
  · obtain ⟨out, b⟩ := v
    simp only at g1 g2 g3
    subst g1
    have := impl_ptYes out g2
    rw [g3] at this
    exact ⟨_, (tableB_side g2).1.2, hv, this⟩

theorem wrap_bd {a : Int} (h0 : -4611686018427387904 ≤ a) (h1 : a ≤ 4611686018427387904) : wrap64 a = a := by unfold wrap64; omega
/-- The cells that hold m, m + 1, .. -/
def markedC : Nat → Int → List Cl
  | 0, _ => []
  | n + 1, m => (⟨m, m + 1⟩ : Cl) :: markedC n (m + 2)
theorem markC_l0 : ∀ (suf pre : List Cl) (m : Int), (pre ++ suf).length ≤ 1048577 → 0 ≤ m → m + 2 * suf.length ≤ 100000000 →
    Ev (fun k => laws_markCellS.l0 k (pre ++ suf) m (pre.length : Int)) (m + 2 * suf.length, pre ++ markedC suf.length m)
  | [], pre, m, _, _, _ => by
    refine ev_up ?_
    simp only [laws_markCellS.l0, if_neg (nlt_end pre)]
    simpa [markedC] using Ev.now (m, pre)
  | c :: suf, pre, m, hl, h0, h1 => by
    have hs : (pre ++ c :: suf).set ((pre.length : Nat) : Int).toNat (⟨m, c.f1⟩ : Cl) = pre ++ (⟨m, c.f1⟩ : Cl) :: suf := by simp
    have hs2 : (pre ++ (⟨m, c.f1⟩ : Cl) :: suf).set ((pre.length : Nat) : Int).toNat (⟨m, m + 1⟩ : Cl) = (pre ++ [(⟨m, m + 1⟩ : Cl)]) ++ suf := by simp
    have ih := markC_l0 suf (pre ++ [(⟨m, m + 1⟩ : Cl)]) (m + 2) (by simp at hl ⊢; omega) (by omega) (by simp only [List.length_cons] at h1; omega)
    simp only [List.length_append, List.length_cons] at hl
    simp only [List.length_cons] at h1
    refine ev_up ?_
    simp only [laws_markCellS.l0, if_pos (lt_mid pre suf c), if_pos (Int.natCast_nonneg pre.length), hs, Option.bind_some, rdT_mid, wrap_bd (a := m + 1) (by omega) (by omega), hs2, wrap_bd (a := m + 1 + 1) (by omega) (by omega), wrap_bd (a := (pre.length : Int) + 1) (by omega) (by omega)]
    rw [show (pre.length : Int) + 1 = ((pre ++ [(⟨m, m + 1⟩ : Cl)]).length : Int) by simp]
    rw [show m + 2 * ((c :: suf).length : Int) = m + 2 + 2 * (suf.length : Int) by simp only [List.length_cons]; omega, show m + 1 + 1 = m + 2 by omega]
    simpa [markedC] using ih
theorem markC_ev (l : List Cl) (hl : l.length ≤ 1048576) : Ev (fun k => laws_markCellS.f k l 1) (1 + 2 * (l.length : Int), markedC l.length 1) :=
  markC_l0 l [] 1 (by simpa using (by omega : l.length ≤ 1048577)) (by omega) (by omega)
theorem heldC_l0 : ∀ (n : Nat) (pre : List Cl) (m : Int), pre.length + n ≤ 1048577 → 0 ≤ m → m + 2 * n ≤ 100000000 →
    Ev (fun k => laws_heldCellS.l0 k (pre ++ markedC n m) m (pre.length : Int)) (m + 2 * n)
  | 0, pre, m, _, _, _ => by
    refine ev_up ?_
    simp only [laws_heldCellS.l0, markedC, if_neg (nlt_end pre)]
    simpa using Ev.now m
  | n + 1, pre, m, hl, h0, h1 => by
    have ih := heldC_l0 n (pre ++ [(⟨m, m + 1⟩ : Cl)]) (m + 2) (by simp; omega) (by omega) (by omega)
    refine ev_up ?_
    simp only [laws_heldCellS.l0, markedC, if_pos (lt_mid pre (markedC n (m + 2)) (⟨m, m + 1⟩ : Cl)), if_pos (Int.natCast_nonneg pre.length), rdT_mid, if_true, wrap_bd (a := m + 1) (by omega) (by omega), wrap_bd (a := m + 1 + 1) (by omega) (by omega), wrap_bd (a := (pre.length : Int) + 1) (by omega) (by omega)]
    rw [show (pre.length : Int) + 1 = ((pre ++ [(⟨m, m + 1⟩ : Cl)]).length : Int) by simp]
    rw [show m + 2 * ((n + 1 : Nat) : Int) = m + 2 + 2 * (n : Int) by push_cast; omega, show m + 1 + 1 = m + 2 by omega]
    simpa using ih
theorem heldC_ev (n : Nat) (hl : n ≤ 1048576) : Ev (fun k => laws_heldCellS.f k (markedC n 1) 1) (1 + 2 * (n : Int)) :=
  heldC_l0 n [] 1 (by simpa using (by omega : n ≤ 1048577)) (by omega) (by omega)

theorem FnExactParseTable : laws_FnExactParseTable.Pure := by
  intro a0 _
  apply Ev.rounds
  unfold laws_FnExactParseTable.f
  by_cases hl : (a0.size : Int) > 1048576
  · simp only [if_pos hl]
    exact Ev.now _
  · obtain ⟨v, h6, hs, hi⟩ := pt_both a0 (by omega)
    simp only [if_neg hl]
    refine Ev.bind hs ?_
    refine Ev.bind hi ?_
    refine Ev.bind (eqCellS_ev v.1 (by omega)) ?_
    simp only [if_true, bne_self_eq_false]
    refine ev_up ?_
    simp only [laws_FnExactParseTable.j0, Bool.false_eq_true, if_false]
    refine Ev.bind (markC_ev v.1 (by omega)) ?_
    refine Ev.bind (heldC_ev v.1.length (by omega)) ?_
    simp only [if_neg (show ¬ (1 + 2 * (v.1.length : Int)) < 0 by omega), if_true]
    refine Ev.bind hi ?_
    refine Ev.bind (eqCellS_ev v.1 (by omega)) ?_
    simp only [if_true, bne_self_eq_false]
    refine ev_up ?_
    simp only [laws_FnExactParseTable.j1, Bool.false_eq_true, if_false]
    refine Ev.bind (heldC_ev v.1.length (by omega)) ?_
    simp only [if_neg (show ¬ (1 + 2 * (v.1.length : Int)) < 0 by omega), if_true]
    exact Ev.now _

end Go.Proofs.YtbolkipmehmncaaDoor.Pure
