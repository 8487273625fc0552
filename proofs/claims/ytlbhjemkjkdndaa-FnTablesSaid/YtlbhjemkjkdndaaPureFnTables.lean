/- An unfolded table has four times its cells, a half turn, and an angle of three turns at each point with three cells: for all codes. -/
import Derived.Test.YtlbhjemkjkdndaaSayFnTables
namespace Go.Proofs.Ytlbhjemkjkdndaa.Pure
open Go.RowKit Go.Proofs.Ytlbhjemkjkdndaa.S Go.Proofs.YtlbhjemkjkdndaaW.PrintWords Go.Proofs.YtlbhjemkjkdndaaW.PrintLast
set_option linter.unusedVariables false
set_option linter.unusedSimpArgs false

theorem ev_up {α : Type} {g : Nat → Option α} {r : α} (h : Ev (fun k => g (k + 1)) r) : Ev g r := Ev.step (fun _ => rfl) h
theorem pw_wrap {a : Int} (h0 : -9223372036854775808 ≤ a) (h1 : a ≤ 9223372036854775807) : wrap64 a = a := by
  unfold wrap64
  omega

theorem and255 (x : Int) : 0 ≤ Go.bits .and .i64 x 255 ∧ Go.bits .and .i64 x 255 ≤ 255 := by
  have h : (BitVec.ofInt 64 x &&& BitVec.ofInt 64 255).toNat ≤ 255 := by
    rw [BitVec.toNat_and]
    exact Nat.le_trans Nat.and_le_right (by decide)
  show 0 ≤ IntKind.i64.wrap ((BitVec.ofInt 64 x &&& BitVec.ofInt 64 255).toNat : Int) ∧ IntKind.i64.wrap ((BitVec.ofInt 64 x &&& BitVec.ofInt 64 255).toNat : Int) ≤ 255
  generalize (BitVec.ofInt 64 x &&& BitVec.ofInt 64 255).toNat = n at *
  rw [IntKind.wrap_i64]
  omega
theorem byte_some (l : List Int) (hl : l.length ≤ 4611686018427387904) (i h : Int) (hi : 0 ≤ i) : ∃ v i' h', s_l01Byte.f l i h = some (v, i', h') ∧ 0 ≤ v ∧ v ≤ 255 ∧ 0 ≤ i' := by
  unfold s_l01Byte.f
  by_cases h1 : i < (l.length : Int)
  · simp only [if_pos h1, if_pos hi]
    exact ⟨_, _, _, rfl, (and255 _).1, (and255 _).2, by rw [pw_wrap (by omega) (by omega)]; omega⟩
  · simp only [if_neg h1]
    exact ⟨_, _, _, rfl, (and255 _).1, (and255 _).2, hi⟩
theorem below_some (l : List Int) (hl : l.length ≤ 4611686018427387904) (i h : Int) (hi : 0 ≤ i) (n : Int) (h1 : 1 ≤ n) (h2 : n ≤ 256) : ∃ v i' h', s_l01Below.f l i h n = some (v, i', h') ∧ 0 ≤ v ∧ v < n ∧ 0 ≤ i' := by
  obtain ⟨v, i', h', e, v0, v1, hi'⟩ := byte_some l hl i h hi
  unfold s_l01Below.f
  simp only [if_neg (show ¬ n ≤ 0 by omega), if_pos h2, e, Option.bind_some, if_neg (show ¬ n = 0 by omega)]
  refine ⟨_, _, _, rfl, ?_, ?_, hi'⟩
  · exact Int.tmod_nonneg _ v0
  · rw [Int.tmod_eq_emod_of_nonneg v0]
    exact Int.emod_lt_of_pos _ (by omega)
theorem new_l0 (l : List Int) (hl : l.length ≤ 4611686018427387904) : ∀ (d : Nat) (x i : Int), 0 ≤ i → i + d = 4000 → ∃ h, Ev (fun k => s_l01New.l0 k l x i) (l, 0, h)
  | 0, x, i, h0, h1 => by
    by_cases h : i < (l.length : Int)
    · refine ⟨x, ev_up ?_⟩
      simp only [s_l01New.l0, if_pos h, if_neg (show ¬ i < 4000 by omega)]
      exact Ev.now _
    · refine ⟨x, ev_up ?_⟩
      simp only [s_l01New.l0, if_neg h]
      exact Ev.now _
  | d + 1, x, i, h0, h1 => by
    by_cases h : i < (l.length : Int)
    · obtain ⟨r, hr⟩ := new_l0 l hl d (Go.bits .and .i64 (wrap64 ((wrap64 ((wrap64 (x * 109)) + (wrap64 (rd l i)))) + 7)) 1073741823) (i + 1) (by omega) (by omega)
      refine ⟨r, ev_up ?_⟩
      simp only [s_l01New.l0, if_pos h, if_pos (show i < 4000 by omega), if_pos h0, pw_wrap (a := i + 1) (by omega) (by omega)]
      exact hr
    · refine ⟨x, ev_up ?_⟩
      simp only [s_l01New.l0, if_neg h]
      exact Ev.now _
theorem new_some (l : List Int) (hl : l.length ≤ 4611686018427387904) : ∃ h, Ev (fun k => s_l01New.f k l) (l, 0, h) := by
  unfold s_l01New.f
  exact new_l0 l hl 4000 _ 0 (by omega) (by omega)
theorem nodup_len (n : Nat) : ∀ l : List Int, l.Nodup → (∀ x ∈ l, 0 ≤ x ∧ x < n) → l.length ≤ n := by
  induction n with
  | zero =>
    intro l _ h
    cases l with
    | nil => simp
    | cons x l => have := h x (by simp); omega
  | succ n ih =>
    intro l hn h
    have h2 := ih (l.filter (fun x => x != (n : Int))) (hn.filter _) (fun x hx => by
      have h3 := List.mem_filter.1 hx
      have h4 := h x h3.1
      have h5 : x ≠ (n : Int) := by simpa using h3.2
      omega)
    have h3 : l.length ≤ (l.filter (fun x => x != (n : Int))).length + 1 := by
      clear h h2 ih
      induction l with
      | nil => simp
      | cons y l ihl =>
        have hn2 := List.nodup_cons.1 hn
        by_cases hy : y = (n : Int)
        · have : l.filter (fun x => x != (n : Int)) = l := List.filter_eq_self.2 (fun x hx => by
            have : x ≠ (n : Int) := fun e => hn2.1 (by rw [hy, ← e]; exact hx)
            simpa using this)
          simp [hy, this]
        · have := ihl hn2.2
          simp [hy]
          omega
    omega
def push (q : List Int) (k : Int) : List Int := if 0 ≤ k ∧ k ∉ q then q ++ [k] else q
def pushAll (q : List Int) (ks : List Int) : List Int := ks.foldl push q
def Few (n : Nat) (q : List Int) : Prop := q.Nodup ∧ ∀ x ∈ q, 0 ≤ x ∧ x < (n : Int)
theorem few_push {n : Nat} {q : List Int} {k : Int} (h : Few n q) (hk : k < n) : Few n (push q k) := by
  unfold push
  split
  · rename_i h2
    refine ⟨?_, fun x hx => ?_⟩
    · rw [List.nodup_append]
      refine ⟨h.1, by simp, ?_⟩
      intro a ha b hb
      simp at hb
      subst hb
      exact fun e => h2.2 (e ▸ ha)
    · rcases List.mem_append.1 hx with hx | hx
      · exact h.2 x hx
      · simp at hx; subst hx; exact ⟨h2.1, hk⟩
  · exact h
theorem push_len (q : List Int) (k : Int) : q.length ≤ (push q k).length := by unfold push; split <;> simp
theorem few_pushAll {n : Nat} : ∀ (ks q : List Int), Few n q → (∀ k ∈ ks, k < n) → Few n (pushAll q ks) ∧ q.length ≤ (pushAll q ks).length
  | [], q, h, _ => ⟨h, Nat.le_refl _⟩
  | k :: ks, q, h, hk => by
    have h1 := few_push h (hk k (by simp))
    have h2 := few_pushAll ks (push q k) h1 (fun x hx => hk x (by simp [hx]))
    exact ⟨h2.1, Nat.le_trans (push_len q k) h2.2⟩
theorem few_len {n : Nat} {q : List Int} (h : Few n q) : q.length ≤ n := nodup_len n q h.1 h.2
def bfs (nb : Int → List Int) : Nat → List Int → Nat → List Int
  | 0, q, _ => q
  | f + 1, q, i => if h : i < q.length then bfs nb f (pushAll q (nb q[i])) (i + 1) else q
theorem bfs_done (nb : Int → List Int) (f : Nat) (q : List Int) (i : Nat) (h : ¬ i < q.length) : bfs nb f q i = q := by
  cases f with
  | zero => rfl
  | succ f => rw [bfs, dif_neg h]
theorem bfs_few {n : Nat} (nb : Int → List Int) (hnb : ∀ x : Int, 0 ≤ x → x < (n : Int) → ∀ k ∈ nb x, k < (n : Int)) : ∀ (f : Nat) (q : List Int) (i : Nat), Few n q → Few n (bfs nb f q i)
  | 0, q, i, h => h
  | f + 1, q, i, h => by
    rw [bfs]
    split
    · rename_i hi
      have := h.2 _ (List.getElem_mem hi)
      exact bfs_few nb hnb f _ _ (few_pushAll (nb q[i]) q h (hnb q[i] this.1 this.2)).1
    · exact h

theorem wrap_snoc {α : Type} {p s : List α} {x : α} (h : (p ++ x :: s).length ≤ 4611686018427387904) : wrap64 ((p.length : Int) + 1) = ((p ++ [x]).length : Int) := by
  simp at h ⊢
  unfold wrap64
  omega
theorem lt_mid {α : Type} (p s : List α) (x : α) : ((p.length : Nat) : Int) < ((p ++ x :: s).length : Int) := by simp; omega
theorem nlt_end {α : Type} (p : List α) : ¬ ((p.length : Nat) : Int) < ((p ++ []).length : Int) := by simp
theorem rd_mid (p s : List Int) (x : Int) : rd (p ++ x :: s) (p.length : Int) = x := by simp [rd, List.getD]
theorem nil_or_snoc {α : Type} (l : List α) : l = [] ∨ ∃ p x, l = p ++ [x] := by
  rcases List.eq_nil_or_concat l with h | ⟨p, x, h⟩
  · exact .inl h
  · exact .inr ⟨p, x, by rw [h]; simp⟩

def idxGo (x : Int) : List Int → Int → Int
  | [], _ => -1
  | c :: cs, i => if c = x then i else idxGo x cs (i + 1)
theorem i_index_l0 (l : List Int) (hl : l.length ≤ 4611686018427387904) (x : Int) : ∀ (suf pre : List Int), l = pre ++ suf →
    Ev (fun k => slices_Index_int_int.l0 k l x (l.length : Int) (pre.length : Int)) (idxGo x suf pre.length) := by
  intro suf
  induction suf with
  | nil =>
    intro pre h
    subst h
    refine ev_up ?_
    simp only [slices_Index_int_int.l0, if_neg (nlt_end pre)]
    exact Ev.now _
  | cons c suf ih =>
    intro pre h
    have := ih (pre ++ [c]) (by simp [h])
    subst h
    refine ev_up ?_
    by_cases hc : c = x
    · simp only [slices_Index_int_int.l0, if_pos (lt_mid pre suf c), if_pos (Int.natCast_nonneg pre.length), rd_mid, if_pos hc.symm]
      rw [idxGo, if_pos hc]
      exact Ev.now _
    · simp only [slices_Index_int_int.l0, if_pos (lt_mid pre suf c), if_pos (Int.natCast_nonneg pre.length), rd_mid, if_neg (Ne.symm hc), wrap_snoc hl]
      rw [idxGo, if_neg hc, show (pre.length : Int) + 1 = ((pre ++ [c]).length : Int) by simp]
      exact this
theorem i_index (l : List Int) (hl : l.length ≤ 4611686018427387904) (x : Int) : Ev (fun k => slices_Index_int_int.f k l x) (idxGo x l 0) := i_index_l0 l hl x l [] rfl
theorem idx_mem (x : Int) : ∀ (l : List Int) (i : Int), 0 ≤ i → (decide (idxGo x l i ≥ 0) = decide (x ∈ l))
  | [], i, _ => by simp [idxGo]
  | c :: cs, i, h => by
    by_cases hc : c = x
    · simp [idxGo, hc, h]
    · rw [idxGo, if_neg hc, idx_mem x cs (i + 1) (by omega)]
      simp [Ne.symm hc]
theorem i_contains (l : List Int) (hl : l.length ≤ 4611686018427387904) (x : Int) : Ev (fun k => slices_Contains_int_int.f k l x) (decide (x ∈ l)) := by
  unfold slices_Contains_int_int.f
  refine Ev.bind (i_index l hl x) ?_
  simp only [idx_mem x l 0 (Int.le_refl 0)]
  exact Ev.now _

theorem rdT_mid (p s : List S41) (x : S41) : rd_T41 (p ++ x :: s) (p.length : Int) = x := by simp [rd_T41, List.getD]
abbrev Cl := S41
def cellGo (x y : Int) : List Cl → Int → Int
  | [], _ => -1
  | c :: cs, i => if c.f0 = x ∧ c.f1 = y then i else cellGo x y cs (i + 1)
def cellAt (l : List Cl) (x y : Int) : Int := cellGo x y l 0
theorem s_CellAt_l0 (l : List Cl) (hl : l.length ≤ 1048576) (x y : Int) : ∀ (suf pre : List Cl), l = pre ++ suf →
    Ev (fun k => s_CellAt.l0 k x y l (l.length : Int) (pre.length : Int)) (cellGo x y suf pre.length) := by
  intro suf
  induction suf with
  | nil =>
    intro pre h
    subst h
    refine ⟨1, fun k hk => ?_⟩
    obtain ⟨k, rfl⟩ : ∃ m, k = m + 1 := ⟨k - 1, by omega⟩
    simp only [s_CellAt.l0]
    rw [if_neg (nlt_end pre)]
    rfl
  | cons c suf ih =>
    intro pre h
    have := ih (pre ++ [c]) (by simp [h])
    subst h
    by_cases hc : c.f0 = x ∧ c.f1 = y
    · refine Ev.step (f := fun _ => some ((pre.length : Nat) : Int)) (fun k => ?_) (by rw [cellGo, if_pos hc]; exact Ev.now _)
      simp only [s_CellAt.l0]
      rw [if_pos (lt_mid pre suf c), if_pos (Int.natCast_nonneg _), if_pos (lt_mid pre suf c), rdT_mid, if_pos hc.1, if_pos hc.2]
    · rw [cellGo, if_neg hc]
      rw [show ((pre ++ [c]).length : Int) = (pre.length : Int) + 1 by simp] at this
      refine Ev.step (fun k => ?_) this
      simp only [s_CellAt.l0]
      rw [if_pos (lt_mid pre suf c), if_pos (Int.natCast_nonneg _), if_pos (lt_mid pre suf c), rdT_mid, wrap_snoc (x := c) (s := suf) (by simp at hl ⊢; omega)]
      by_cases h1 : c.f0 = x
      · rw [if_pos h1, if_neg (fun h2 => hc ⟨h1, h2⟩)]; simp
      · rw [if_neg h1]; simp
theorem s_CellAt_ev (l : List Cl) (hl : l.length ≤ 1048576) (x y : Int) : Ev (fun k => s_CellAt.f k l x y) (cellAt l x y) := s_CellAt_l0 l hl x y l [] rfl
theorem i_Index_l0 (l : List Cl) (hl : l.length ≤ 1048576) (x y : Int) : ∀ (suf pre : List Cl), l = pre ++ suf →
    Ev (fun k => i_Cell.l0 k l (l.length : Int) (pre.length : Int) x y) (cellGo x y suf pre.length) := by
  intro suf
  induction suf with
  | nil =>
    intro pre h
    subst h
    refine ⟨1, fun k hk => ?_⟩
    obtain ⟨k, rfl⟩ : ∃ m, k = m + 1 := ⟨k - 1, by omega⟩
    simp only [i_Cell.l0]
    rw [if_neg (nlt_end pre)]
    rfl
  | cons c suf ih =>
    intro pre h
    have := ih (pre ++ [c]) (by simp [h])
    subst h
    by_cases hc : c.f0 = x ∧ c.f1 = y
    · refine Ev.step (f := fun _ => some ((pre.length : Nat) : Int)) (fun k => ?_) (by rw [cellGo, if_pos hc]; exact Ev.now _)
      simp only [i_Cell.l0]
      rw [if_pos (lt_mid pre suf c), if_pos (Int.natCast_nonneg _), if_pos (lt_mid pre suf c), rdT_mid, hc.1, hc.2]
      simp
    · rw [cellGo, if_neg hc]
      rw [show ((pre ++ [c]).length : Int) = (pre.length : Int) + 1 by simp] at this
      refine Ev.step (fun k => ?_) this
      simp only [i_Cell.l0]
      rw [if_pos (lt_mid pre suf c), if_pos (Int.natCast_nonneg _), if_pos (lt_mid pre suf c), rdT_mid, wrap_snoc (x := c) (s := suf) (by simp at hl ⊢; omega)]
      rw [if_neg (by simp; exact fun h1 h2 => hc ⟨h1.symm, h2.symm⟩)]
      simp
theorem i_CellAt_ev (l : List Cl) (hl : l.length ≤ 1048576) (x y : Int) : Ev (fun k => i_CellAt.f k l x y) (cellAt l x y) := by
  refine Ev.bind (i_Index_l0 l hl x y l [] rfl) ?_
  exact Ev.now _

theorem rd_get (q : List Int) (i : Nat) (h : i < q.length) : rd q (i : Int) = q[i] := by simp [rd, List.getD, h]

theorem cellGo_bd (x y : Int) : ∀ (l : List Cl) (i : Int), cellGo x y l i = -1 ∨ (i ≤ cellGo x y l i ∧ cellGo x y l i < i + l.length)
  | [], i => .inl rfl
  | c :: cs, i => by
    rw [cellGo]
    split
    · right; simp; omega
    · rcases cellGo_bd x y cs (i + 1) with h | ⟨h1, h2⟩
      · exact .inl h
      · right; simp; omega
theorem cellAt_bd (l : List Cl) (x y : Int) : -1 ≤ cellAt l x y ∧ cellAt l x y < l.length := by
  unfold cellAt
  rcases cellGo_bd x y l 0 with h | ⟨h1, h2⟩ <;> omega
def nbrs (l : List Cl) (i : Int) : List Int :=
  [cellAt l ((rd_T41 l i).f0 + 1) (rd_T41 l i).f1, cellAt l ((rd_T41 l i).f0 + -1) (rd_T41 l i).f1, cellAt l (rd_T41 l i).f0 ((rd_T41 l i).f1 + 1), cellAt l (rd_T41 l i).f0 ((rd_T41 l i).f1 + -1)]
theorem nbrs_lt (l : List Cl) (i : Int) : ∀ k ∈ nbrs l i, k < (l.length : Int) := by
  intro k hk
  simp only [nbrs, List.mem_cons, List.not_mem_nil, or_false] at hk
  rcases hk with rfl | rfl | rfl | rfl <;> exact (cellAt_bd ..).2
def Near0 (l : List Cl) : Prop := ∀ c ∈ l, 0 ≤ c.f0 ∧ c.f0 ≤ 9 ∧ 0 ≤ c.f1 ∧ c.f1 ≤ 9
theorem near_rd {l : List Cl} (hv : Near0 l) {i : Int} (h0 : 0 ≤ i) (h1 : i < l.length) : 0 ≤ (rd_T41 l i).f0 ∧ (rd_T41 l i).f0 ≤ 9 ∧ 0 ≤ (rd_T41 l i).f1 ∧ (rd_T41 l i).f1 ≤ 9 := by
  have h : i.toNat < l.length := by omega
  have e : rd_T41 l i = l[i.toNat] := by simp [rd_T41, List.getD, h]
  rw [e]
  exact hv _ (List.getElem_mem h)
theorem i_table_l2 (l : List Cl) (hl : l.length ≤ 6) (x6 : Int) (hx : 0 ≤ x6 ∧ x6 ≤ 1000) (ys : List Int) (hy : ys.length ≤ 1000) (r : Bool) : ∀ (suf pre q : List Int), ys = pre ++ suf → Few l.length q → (∀ k ∈ suf, k < (l.length : Int)) →
    Ev (fun k => i_TableOk.l1 k l (pushAll q suf) (x6 + 1)) r → Ev (fun k => i_TableOk.l2 k l q x6 ys (ys.length : Int) (pre.length : Int)) r := by
  intro suf
  induction suf with
  | nil =>
    intro pre q h hq hk hr
    subst h
    refine ev_up ?_
    simp only [i_TableOk.l2, if_neg (nlt_end pre), pw_wrap (a := x6 + 1) (by omega) (by omega)]
    exact hr
  | cons c suf ih =>
    intro pre q h hq hk hr
    have hc := hk c (by simp)
    have hf := few_push hq hc
    have hi := ih (pre ++ [c]) (push q c) (by simp [h]) hf (fun k h' => hk k (by simp [h'])) hr
    subst h
    have hql := few_len hq
    refine ev_up ?_
    simp only [i_TableOk.l2, if_pos (lt_mid pre suf c), if_pos (Int.natCast_nonneg pre.length), rd_mid, wrap_snoc (x := c) (s := suf) (p := pre) (by simp at hy ⊢; omega)]
    by_cases h0 : c ≥ 0
    · simp only [if_pos h0]
      refine Ev.bind (i_contains q (by omega) c) ?_
      by_cases hm : c ∈ q
      · simp only [decide_eq_true hm, if_true]
        unfold push at hi
        rw [if_neg (fun h => h.2 hm)] at hi
        exact hi
      · simp only [decide_eq_false hm, Bool.false_eq_true, if_false, if_pos (show q.length < 17592186044416 by omega)]
        unfold push at hi
        rw [if_pos ⟨h0, hm⟩] at hi
        exact hi
    · simp only [if_neg h0]
      unfold push at hi
      rw [if_neg (fun h => h0 h.1)] at hi
      exact hi
def whole (l : List Cl) (f : Nat) (q : List Int) (i : Nat) : Bool := ((bfs (nbrs l) f q i).length : Int) == (l.length : Int)
theorem i_table_l1 (l : List Cl) (hl : l.length ≤ 6) (hv : Near0 l) : ∀ (f : Nat) (q : List Int) (i : Nat), Few l.length q → i ≤ q.length → f + i = l.length + 1 →
    Ev (fun k => i_TableOk.l1 k l q (i : Int)) (whole l f q i) := by
  intro f
  induction f with
  | zero =>
    intro q i hq hi hf
    have := few_len hq
    omega
  | succ f ih =>
    intro q i hq hi hf
    have hql := few_len hq
    refine ev_up ?_
    by_cases h : i < q.length
    · have hx := hq.2 _ (List.getElem_mem h)
      have hr := near_rd hv hx.1 hx.2
      generalize hc : rd_T41 l q[i] = c at hr
      simp only [i_TableOk.l1, if_pos (show ((i : Nat) : Int) < (q.length : Int) by omega), if_pos (Int.natCast_nonneg i), rd_get q i h, if_pos hx.1, if_pos hx.2, hc,
        pw_wrap (a := c.f0 + 1) (by omega) (by omega), pw_wrap (a := c.f0 - 1) (by omega) (by omega), pw_wrap (a := c.f1 + 1) (by omega) (by omega), pw_wrap (a := c.f1 - 1) (by omega) (by omega)]
      refine Ev.bind (i_CellAt_ev l (by omega) _ _) ?_
      refine Ev.bind (i_CellAt_ev l (by omega) _ _) ?_
      refine Ev.bind (i_CellAt_ev l (by omega) _ _) ?_
      refine Ev.bind (i_CellAt_ev l (by omega) _ _) ?_
      simp only [Option.bind_some]
      have hp := few_pushAll _ q hq (nbrs_lt l q[i])
      have := ih _ (i + 1) hp.1 (by have := hp.2; omega) (by omega)
      have := i_table_l2 l hl i (by omega) (nbrs l q[i]) (by simp [nbrs]) _ _ [] q rfl hq (nbrs_lt l q[i]) this
      rw [whole, bfs, dif_pos h]
      unfold nbrs at this ⊢
      rw [hc] at this ⊢
      exact this
    · simp only [i_TableOk.l1, if_neg (show ¬ ((i : Nat) : Int) < (q.length : Int) by omega)]
      rw [whole, bfs_done _ _ _ _ h]
      exact Ev.now _
def vGo : Option Cl → List Cl → Bool
  | _, [] => true
  | none, c :: cs => decide (0 ≤ c.f0 ∧ c.f0 ≤ 9) && decide (0 ≤ c.f1 ∧ c.f1 ≤ 9) && vGo (some c) cs
  | some p, c :: cs => decide (0 ≤ c.f0 ∧ c.f0 ≤ 9) && decide (0 ≤ c.f1 ∧ c.f1 ≤ 9) && !decide (c.f1 < p.f1 ∨ c.f1 = p.f1 ∧ c.f0 ≤ p.f0) && vGo (some c) cs
theorem vGo_near : ∀ (p : Option Cl) (l : List Cl), vGo p l = true → Near0 l
  | _, [], _ => fun c hc => by simp at hc
  | none, c :: cs, h => by
    simp only [vGo, Bool.and_eq_true, decide_eq_true_eq] at h
    intro d hd
    rcases List.mem_cons.1 hd with rfl | hd
    · exact ⟨h.1.1.1, h.1.1.2, h.1.2.1, h.1.2.2⟩
    · exact vGo_near (some c) cs h.2 d hd
  | some p, c :: cs, h => by
    simp only [vGo, Bool.and_eq_true, decide_eq_true_eq] at h
    intro d hd
    rcases List.mem_cons.1 hd with rfl | hd
    · exact ⟨h.1.1.1.1, h.1.1.1.2, h.1.1.2.1, h.1.1.2.2⟩
    · exact vGo_near (some c) cs h.2 d hd
def tableB (l : List Cl) : Bool := decide (1 ≤ l.length ∧ l.length ≤ 6) && vGo none l && whole l (l.length + 1) [0] 0
theorem tableB_side {l : List Cl} (h : tableB l = true) : (1 ≤ l.length ∧ l.length ≤ 6) ∧ Near0 l ∧ vGo none l = true ∧ whole l (l.length + 1) [0] 0 = true := by
  simp only [tableB, Bool.and_eq_true, decide_eq_true_eq] at h
  exact ⟨h.1.1, vGo_near _ _ h.1.2, h.1.2, h.2⟩

theorem few_zero {n : Nat} (h : 1 ≤ n) : Few n [0] := ⟨by simp, fun x hx => by simp at hx; subst hx; omega⟩
theorem near_snoc {pre : List Cl} {c : Cl} (h : Near0 pre) (hc : 0 ≤ c.f0 ∧ c.f0 ≤ 9 ∧ 0 ≤ c.f1 ∧ c.f1 ≤ 9) : Near0 (pre ++ [c]) := by
  intro d hd
  rcases List.mem_append.1 hd with hd | hd
  · exact h d hd
  · simp at hd; subst hd; exact hc
theorem i_table_l0 (l : List Cl) (hn : 1 ≤ l.length ∧ l.length ≤ 6) : ∀ (suf pre : List Cl), l = pre ++ suf → Near0 pre →
    Ev (fun k => i_TableOk.l0 k l l (l.length : Int) (pre.length : Int)) (vGo pre.getLast? suf && whole l (l.length + 1) [0] 0) := by
  intro suf
  induction suf with
  | nil =>
    intro pre h hp
    refine ev_up ?_
    have hlen : ¬ ((pre.length : Nat) : Int) < (l.length : Int) := by rw [h]; simp
    simp only [i_TableOk.l0, if_neg hlen]
    have hv : Near0 l := by rw [h]; simpa using hp
    have := i_table_l1 l hn.2 hv (l.length + 1) [0] 0 (few_zero hn.1) (by simp) rfl
    cases hgl : pre.getLast? <;> simpa [vGo] using this
  | cons c suf ih =>
    intro pre h hp
    have hlt : ((pre.length : Nat) : Int) < (l.length : Int) := by rw [h]; exact lt_mid pre suf c
    have hrd : rd_T41 l (pre.length : Int) = c := by rw [h]; exact rdT_mid pre suf c
    have hw : wrap64 ((pre.length : Int) + 1) = ((pre ++ [c]).length : Int) := wrap_snoc (s := suf) (by rw [← h]; omega)
    have hbad : ∀ r : Bool, r = false → Ev (fun k => i_TableOk.j2 k l (pre.length : Int) l (l.length : Int) (pre.length : Int) true c.f0 c.f1) r := by
      rintro r rfl
      refine ev_up ?_
      simp only [i_TableOk.j2, if_true]
      exact Ev.now _
    refine ev_up ?_
    simp only [i_TableOk.l0, if_pos hlt, if_pos (Int.natCast_nonneg pre.length), hrd]
    by_cases h1 : 0 ≤ c.f0 ∧ c.f0 ≤ 9
    · by_cases h2 : 0 ≤ c.f1 ∧ c.f1 ≤ 9
      · have hi := ih (pre ++ [c]) (by simp [h]) (near_snoc hp ⟨h1.1, h1.2, h2⟩)
        rw [List.getLast?_concat] at hi
        simp only [if_neg (show ¬ c.f0 < 0 by omega), if_neg (show ¬ c.f0 > 9 by omega), if_neg (show ¬ c.f1 < 0 by omega), decide_eq_false (show ¬ c.f1 > 9 by omega)]
        refine ev_up ?_
        simp only [i_TableOk.j2, Bool.false_eq_true, if_false, hw]
        rcases nil_or_snoc pre with rfl | ⟨pre', p, rfl⟩
        · simp only [if_neg (show ¬ (([] : List Cl).length : Int) > 0 by simp)]
          simpa [vGo, h1, h2] using hi
        · have hlen : ((pre' ++ [p]).length : Int) = (pre'.length : Int) + 1 := by simp
          rw [hlen] at hlt
          have hw2 : wrap64 (((pre' ++ [p]).length : Int) - 1) = (pre'.length : Int) := by rw [hlen]; unfold wrap64; omega
          have hrp : rd_T41 l (pre'.length : Int) = p := by rw [h, List.append_assoc]; exact rdT_mid pre' _ p
          simp only [if_pos (show ((pre' ++ [p]).length : Int) > 0 by rw [hlen]; omega), hw2, if_pos (Int.natCast_nonneg pre'.length), if_pos (show ((pre'.length : Nat) : Int) < (l.length : Int) by omega), hrp]
          rw [List.getLast?_concat]
          by_cases h3 : c.f1 < p.f1
          · simp only [if_pos h3]
            simpa [vGo, h3] using Ev.now false
          · by_cases h4 : c.f1 = p.f1
            · by_cases h5 : c.f0 ≤ p.f0
              · simp only [if_neg h3, if_pos h4, if_pos h5]
                simpa [vGo, h4, h5] using Ev.now false
              · simp only [if_neg h3, if_pos h4, if_neg h5]
                have e : (decide (c.f1 < p.f1 ∨ c.f1 = p.f1 ∧ c.f0 ≤ p.f0)) = false := decide_eq_false (by omega)
                simp only [vGo, decide_eq_true h1, decide_eq_true h2, e, Bool.not_false, Bool.true_and]
                exact hi
            · simp only [if_neg h3, if_neg h4]
              have e : (decide (c.f1 < p.f1 ∨ c.f1 = p.f1 ∧ c.f0 ≤ p.f0)) = false := decide_eq_false (by omega)
              simp only [vGo, decide_eq_true h1, decide_eq_true h2, e, Bool.not_false, Bool.true_and]
              exact hi
      · have e : vGo pre.getLast? (c :: suf) = false := by cases pre.getLast? <;> simp only [vGo, decide_eq_false h2, Bool.and_false, Bool.false_and]
        simp only [if_neg (show ¬ c.f0 < 0 by omega), if_neg (show ¬ c.f0 > 9 by omega)]
        by_cases h3 : c.f1 < 0
        · simp only [if_pos h3]
          exact hbad _ (by rw [e]; rfl)
        · simp only [if_neg h3, decide_eq_true (show c.f1 > 9 by omega)]
          exact hbad _ (by rw [e]; rfl)
    · have e : vGo pre.getLast? (c :: suf) = false := by cases pre.getLast? <;> simp only [vGo, decide_eq_false h1, Bool.false_and]
      by_cases h3 : c.f0 < 0
      · simp only [if_pos h3]
        exact hbad _ (by rw [e]; rfl)
      · simp only [if_neg h3, if_pos (show c.f0 > 9 by omega)]
        exact hbad _ (by rw [e]; rfl)
theorem i_table (l : List Cl) : Ev (fun k => i_TableOk.f k l) (tableB l) := by
  unfold i_TableOk.f tableB
  by_cases h1 : (l.length : Int) < 1
  · simp only [if_pos h1, decide_eq_false (show ¬ (1 ≤ l.length ∧ l.length ≤ 6) by omega), Bool.false_and]
    refine ev_up ?_
    simp only [i_TableOk.j0, if_true]
    exact Ev.now _
  · simp only [if_neg h1]
    refine ev_up ?_
    by_cases h2 : l.length ≤ 6
    · simp only [i_TableOk.j0, decide_eq_false (show ¬ (l.length : Int) > 6 by omega), Bool.false_eq_true, if_false, decide_eq_true (show 1 ≤ l.length ∧ l.length ≤ 6 by omega), Bool.true_and]
      exact i_table_l0 l (by omega) l [] rfl (fun c hc => by simp at hc)
    · simp only [i_TableOk.j0, decide_eq_true (show (l.length : Int) > 6 by omega), if_true, decide_eq_false (show ¬ (1 ≤ l.length ∧ l.length ≤ 6) by omega), Bool.false_and]
      exact Ev.now _

def dirX (k : Int) : Int := if k % 2 = 1 then -1 else 1
def dirY (k : Int) : Int := if k / 2 % 2 = 1 then -1 else 1
def gR (l : List Cl) (x : Int) : Int := let j := cellAt l ((rd_T41 l (x / 4)).f0 + dirX (x % 4)) (rd_T41 l (x / 4)).f1
  if j < 0 then 4 * (x / 4) + x % 4 + dirX (x % 4) else 4 * j + x % 4
def gU (l : List Cl) (x : Int) : Int := let j := cellAt l (rd_T41 l (x / 4)).f0 ((rd_T41 l (x / 4)).f1 + dirY (x % 4))
  if j < 0 then 4 * (x / 4) + x % 4 + dirY (x % 4) * 2 else 4 * j + x % 4
def vals (g : Int → Int) : Nat → Int → List Int
  | 0, _ => []
  | d + 1, x => g x :: vals g d (x + 1)
theorem vals_len (g : Int → Int) : ∀ (d : Nat) (x : Int), (vals g d x).length = d
  | 0, _ => rfl
  | d + 1, x => by simp [vals, vals_len g d]
theorem vals_add (g : Int → Int) : ∀ (a b : Nat) (x : Int), vals g (a + b) x = vals g a x ++ vals g b (x + a)
  | 0, b, x => by simp [vals]
  | a + 1, b, x => by
    rw [Nat.add_right_comm, vals, vals, vals_add g a b (x + 1)]
    simp only [List.cons_append]
    rw [show x + 1 + (a : Int) = x + ((a + 1 : Nat) : Int) by push_cast; omega]
theorem s_next_bd {l : List Cl} (hl : l.length ≤ 6) (x y : Int) : -1 ≤ cellAt l x y ∧ cellAt l x y ≤ 5 := by have := cellAt_bd l x y; omega
theorem bits_table : Go.bits .and .i64 0 1 = 0 ∧ Go.bits .and .i64 1 1 = 1 ∧ Go.bits .and .i64 2 1 = 0 ∧ Go.bits .and .i64 3 1 = 1 ∧ Go.bits .and .i64 0 2 = 0 ∧ Go.bits .and .i64 1 2 = 0 ∧ Go.bits .and .i64 2 2 = 2 ∧ Go.bits .and .i64 3 2 = 2 ∧
    Go.bits .xor .i64 0 1 = 1 ∧ Go.bits .xor .i64 1 1 = 0 ∧ Go.bits .xor .i64 2 1 = 3 ∧ Go.bits .xor .i64 3 1 = 2 ∧ Go.bits .xor .i64 0 2 = 2 ∧ Go.bits .xor .i64 1 2 = 3 ∧ Go.bits .xor .i64 2 2 = 0 ∧ Go.bits .xor .i64 3 2 = 1 := by decide
theorem bits_k {k : Int} (h0 : 0 ≤ k) (h1 : k < 4) : (Go.bits .and .i64 k 1 = 1 ↔ k % 2 = 1) ∧ (Go.bits .and .i64 k 2 = 2 ↔ k / 2 % 2 = 1) ∧ Go.bits .xor .i64 k 1 = k + dirX k ∧ Go.bits .xor .i64 k 2 = k + dirY k * 2 := by
  have hb := bits_table
  obtain rfl | rfl | rfl | rfl : k = 0 ∨ k = 1 ∨ k = 2 ∨ k = 3 := by omega
  all_goals simp only [hb, dirX, dirY]; decide
theorem i_unfold_j3 {l : List Cl} (hl : l.length ≤ 6) (hv : Near0 l) {i k : Int} (hi : 0 ≤ i ∧ i < l.length) (hk : 0 ≤ k ∧ k < 4) (r u : List Int) (hr : r.length ≤ 1000) (hu : u.length ≤ 1000) (res : List Int × List Int × Bool)
    (h : Ev (fun n => i_UnfoldTable.l1 n l i (k + 1) l (l.length : Int) i (r ++ [gR l (4 * i + k)]) (u ++ [gU l (4 * i + k)]) (rd_T41 l i).f0 (rd_T41 l i).f1) res) :
    Ev (fun n => i_UnfoldTable.j3 n l i k (dirX k) (dirY k) l (l.length : Int) i r u (rd_T41 l i).f0 (rd_T41 l i).f1) res := by
  have hc := near_rd hv hi.1 hi.2
  have hb := bits_k hk.1 hk.2
  have hdx : -1 ≤ dirX k ∧ dirX k ≤ 1 := by unfold dirX; split <;> omega
  have hdy : -1 ≤ dirY k ∧ dirY k ≤ 1 := by unfold dirY; split <;> omega
  have e1 : (4 * i + k) / 4 = i := by omega
  have e2 : (4 * i + k) % 4 = k := by omega
  have wj : ∀ a b : Int, wrap64 (4 * cellAt l a b) = 4 * cellAt l a b := fun a b => by have := s_next_bd hl a b; exact pw_wrap (by omega) (by omega)
  have wjk : ∀ a b : Int, wrap64 (4 * cellAt l a b + k) = 4 * cellAt l a b + k := fun a b => by have := s_next_bd hl a b; exact pw_wrap (by omega) (by omega)
  simp only [gR, gU, e1, e2] at h
  generalize rd_T41 l i = c at *
  refine ev_up ?_
  simp only [i_UnfoldTable.j3, hb.2.2.1, hb.2.2.2, wj, wjk, pw_wrap (a := c.f0 + dirX k) (by omega) (by omega), pw_wrap (a := c.f1 + dirY k) (by omega) (by omega), pw_wrap (a := 4 * i) (by omega) (by omega), pw_wrap (a := k + 1) (by omega) (by omega),
    pw_wrap (a := 4 * i + (k + dirX k)) (by omega) (by omega), pw_wrap (a := 4 * i + (k + dirY k * 2)) (by omega) (by omega), if_pos (show r.length < 17592186044416 by omega), if_pos (show u.length < 17592186044416 by omega)]
  refine Ev.bind (i_CellAt_ev l (by omega) _ _) ?_
  by_cases h1 : cellAt l (c.f0 + dirX k) c.f1 < 0
  · simp only [if_neg (show ¬ cellAt l (c.f0 + dirX k) c.f1 ≥ 0 by omega), wj, wjk]
    rw [if_pos h1, Int.add_assoc] at h
    refine Ev.bind (i_CellAt_ev l (by omega) _ _) ?_
    by_cases h2 : cellAt l c.f0 (c.f1 + dirY k) < 0
    · simp only [if_neg (show ¬ cellAt l c.f0 (c.f1 + dirY k) ≥ 0 by omega), wj, wjk]
      rw [if_pos h2, Int.add_assoc] at h
      exact h
    · simp only [if_pos (show cellAt l c.f0 (c.f1 + dirY k) ≥ 0 by omega), wj, wjk]
      rw [if_neg h2] at h
      exact h
  · simp only [if_pos (show cellAt l (c.f0 + dirX k) c.f1 ≥ 0 by omega), wj, wjk]
    rw [if_neg h1] at h
    refine Ev.bind (i_CellAt_ev l (by omega) _ _) ?_
    by_cases h2 : cellAt l c.f0 (c.f1 + dirY k) < 0
    · simp only [if_neg (show ¬ cellAt l c.f0 (c.f1 + dirY k) ≥ 0 by omega), wj, wjk]
      rw [if_pos h2, Int.add_assoc] at h
      exact h
    · simp only [if_pos (show cellAt l c.f0 (c.f1 + dirY k) ≥ 0 by omega), wj, wjk]
      rw [if_neg h2] at h
      exact h
theorem i_unfold_l1 {l : List Cl} (hl : l.length ≤ 6) (hv : Near0 l) {i : Int} (hi : 0 ≤ i ∧ i < l.length) (res : List Int × List Int × Bool) : ∀ (d : Nat) (k : Int) (r u : List Int), 0 ≤ k → k + d = 4 → r.length + d ≤ 1000 → u.length + d ≤ 1000 →
    Ev (fun n => i_UnfoldTable.l0 n l l (l.length : Int) (i + 1) (r ++ vals (gR l) d (4 * i + k)) (u ++ vals (gU l) d (4 * i + k))) res →
    Ev (fun n => i_UnfoldTable.l1 n l i k l (l.length : Int) i r u (rd_T41 l i).f0 (rd_T41 l i).f1) res := by
  intro d
  induction d with
  | zero =>
    intro k r u h0 h1 h2 h3 h
    refine ev_up ?_
    simp only [i_UnfoldTable.l1, if_neg (show ¬ k < 4 by omega), pw_wrap (a := i + 1) (by omega) (by omega)]
    simpa [vals] using h
  | succ d ih =>
    intro k r u h0 h1 h2 h3 h
    have hb := bits_k h0 (show k < 4 by omega)
    have hn := ih (k + 1) (r ++ [gR l (4 * i + k)]) (u ++ [gU l (4 * i + k)]) (by omega) (by omega) (by simp; omega) (by simp; omega) (by
      rw [← Int.add_assoc]
      simpa [vals] using h)
    have h3 := i_unfold_j3 hl hv hi ⟨h0, by omega⟩ r u (by omega) (by omega) res hn
    have h2 : ∀ dx, dx = dirX k → Ev (fun n => i_UnfoldTable.j2 n l i k dx 1 l (l.length : Int) i r u (rd_T41 l i).f0 (rd_T41 l i).f1) res := by
      rintro dx rfl
      refine ev_up ?_
      by_cases hp : k / 2 % 2 = 1
      · simp only [i_UnfoldTable.j2, if_pos (hb.2.1.2 hp)]
        rw [show dirY k = -1 from by rw [dirY, if_pos hp]] at h3
        exact h3
      · simp only [i_UnfoldTable.j2, if_neg (fun h => hp (hb.2.1.1 h))]
        rw [show dirY k = 1 from by rw [dirY, if_neg hp]] at h3
        exact h3
    refine ev_up ?_
    by_cases hp : k % 2 = 1
    · simp only [i_UnfoldTable.l1, if_pos (show k < 4 by omega), if_pos (hb.1.2 hp)]
      exact h2 (-1) (by rw [dirX, if_pos hp])
    · simp only [i_UnfoldTable.l1, if_pos (show k < 4 by omega), if_neg (fun h => hp (hb.1.1 h))]
      exact h2 1 (by rw [dirX, if_neg hp])
theorem i_unfold_l0 {l : List Cl} (hl : l.length ≤ 6) (hv : Near0 l) : ∀ (d : Nat) (i : Int) (r u : List Int), 0 ≤ i → i + d = l.length → r.length + 4 * d ≤ 1000 → u.length + 4 * d ≤ 1000 →
    Ev (fun n => i_UnfoldTable.l0 n l l (l.length : Int) i r u) (r ++ vals (gR l) (4 * d) (4 * i), u ++ vals (gU l) (4 * d) (4 * i), true) := by
  intro d
  induction d with
  | zero =>
    intro i r u h0 h1 h2 h3
    refine ev_up ?_
    simp only [i_UnfoldTable.l0, if_neg (show ¬ i < (l.length : Int) by omega)]
    simpa [vals] using Ev.now (r, u, true)
  | succ d ih =>
    intro i r u h0 h1 h2 h3
    have hi : 0 ≤ i ∧ i < (l.length : Int) := by omega
    have e4 : ∀ g : Int → Int, vals g (4 * (d + 1)) (4 * i) = vals g 4 (4 * i + 0) ++ vals g (4 * d) (4 * (i + 1)) := fun g => by
      rw [show 4 * (d + 1) = 4 + 4 * d by omega, vals_add, Int.add_zero]
      congr 2
      push_cast
      omega
    have hn := ih (i + 1) (r ++ vals (gR l) 4 (4 * i + 0)) (u ++ vals (gU l) 4 (4 * i + 0)) (by omega) (by omega) (by simp [vals_len]; omega) (by simp [vals_len]; omega)
    refine ev_up ?_
    simp only [i_UnfoldTable.l0, if_pos hi.2, if_pos h0]
    refine i_unfold_l1 hl hv hi _ 4 0 r u (by omega) (by omega) (by omega) (by omega) ?_
    rw [e4, e4, ← List.append_assoc, ← List.append_assoc]
    exact hn
def unfR (l : List Cl) : List Int := vals (gR l) (4 * l.length) 0
def unfU (l : List Cl) : List Int := vals (gU l) (4 * l.length) 0
def unfOf (l : List Cl) : List Int × List Int × Bool := if tableB l = true then (unfR l, unfU l, true) else ([], [], false)
theorem i_unfold (l : List Cl) : Ev (fun k => i_UnfoldTable.f k l) (unfOf l) := by
  unfold i_UnfoldTable.f unfOf
  refine Ev.bind (i_table l) ?_
  by_cases h : tableB l = true
  · obtain ⟨h1, h2, _, _⟩ := tableB_side h
    simp only [if_pos h]
    exact i_unfold_l0 h1.2 h2 l.length 0 [] [] (by omega) (by omega) (by simp; omega) (by simp; omega)
  · simp only [if_neg h]
    exact Ev.now _

theorem vGo_gt : ∀ (cs : List Cl) (p : Cl), vGo (some p) cs = true → ∀ c ∈ cs, p.f1 < c.f1 ∨ p.f1 = c.f1 ∧ p.f0 < c.f0
  | [], _, _ => fun c hc => by simp at hc
  | d :: cs, p, h => by
    simp only [vGo, Bool.and_eq_true, Bool.not_eq_true', decide_eq_false_iff_not] at h
    have hd : p.f1 < d.f1 ∨ p.f1 = d.f1 ∧ p.f0 < d.f0 := by have := h.1.2; omega
    intro c hc
    rcases List.mem_cons.1 hc with rfl | hc
    · exact hd
    · have := vGo_gt cs d h.2 c hc
      omega
theorem vGo_tail {o : Option Cl} {c : Cl} {cs : List Cl} (h : vGo o (c :: cs) = true) : vGo (some c) cs = true := by
  cases o with
  | none => simp only [vGo, Bool.and_eq_true] at h; exact h.2
  | some p => simp only [vGo, Bool.and_eq_true] at h; exact h.2
theorem cellGo_at : ∀ (l : List Cl) (o : Option Cl) (s : Int), vGo o l = true → ∀ (j : Nat) (h : j < l.length), cellGo l[j].f0 l[j].f1 l s = s + j
  | [], _, _, _, j, h => absurd h (by simp)
  | c :: cs, o, s, hv, 0, _ => by simp [cellGo]
  | c :: cs, o, s, hv, j + 1, h => by
    have ht := vGo_tail hv
    have hj : j < cs.length := by simpa using h
    have hg := vGo_gt cs c ht _ (List.getElem_mem hj)
    simp only [List.getElem_cons_succ, cellGo]
    rw [if_neg (by omega), cellGo_at cs (some c) (s + 1) ht j hj]
    omega
theorem cellGo_hit (x y : Int) : ∀ (l : List Cl) (s : Int), cellGo x y l s = -1 ∨ ∃ (j : Nat) (h : j < l.length), cellGo x y l s = s + j ∧ l[j].f0 = x ∧ l[j].f1 = y
  | [], _ => .inl rfl
  | c :: cs, s => by
    rw [cellGo]
    by_cases hc : c.f0 = x ∧ c.f1 = y
    · rw [if_pos hc]
      exact .inr ⟨0, by simp, by simp, hc.1, hc.2⟩
    · rw [if_neg hc]
      rcases cellGo_hit x y cs (s + 1) with e | ⟨j, hj, e, h1, h2⟩
      · exact .inl e
      · exact .inr ⟨j + 1, by simp; omega, by rw [e]; simp; omega, h1, h2⟩
theorem rdT_get (l : List Cl) (j : Nat) (h : j < l.length) : rd_T41 l (j : Int) = l[j] := by simp [rd_T41, List.getD, h]
theorem cellAt_self {l : List Cl} (hv : vGo none l = true) {i : Int} (h0 : 0 ≤ i) (h1 : i < l.length) : cellAt l (rd_T41 l i).f0 (rd_T41 l i).f1 = i := by
  obtain ⟨n, rfl⟩ := Int.eq_ofNat_of_zero_le h0
  have hn : n < l.length := by omega
  rw [rdT_get l n hn]
  unfold cellAt
  rw [cellGo_at l none 0 hv n hn]
  omega
theorem cellAt_hit {l : List Cl} {x y : Int} (h : 0 ≤ cellAt l x y) : (rd_T41 l (cellAt l x y)).f0 = x ∧ (rd_T41 l (cellAt l x y)).f1 = y := by
  unfold cellAt at *
  rcases cellGo_hit x y l 0 with e | ⟨j, hj, e, h1, h2⟩
  · rw [e] at h
    omega
  · rw [e, Int.zero_add, rdT_get l j hj]
    exact ⟨h1, h2⟩

theorem mem_push {q : List Int} {x : Int} (k : Int) (h : x ∈ q) : x ∈ push q k := by
  unfold push
  split
  · exact List.mem_append_left _ h
  · exact h
theorem mem_pushAll {x : Int} : ∀ (ks q : List Int), x ∈ q → x ∈ pushAll q ks
  | [], _, h => h
  | k :: ks, q, h => mem_pushAll ks (push q k) (mem_push k h)
theorem push_mem {q : List Int} {k : Int} (h : 0 ≤ k) : k ∈ push q k := by
  unfold push
  by_cases hk : k ∈ q
  · rw [if_neg (fun z => z.2 hk)]
    exact hk
  · rw [if_pos ⟨h, hk⟩]
    simp
theorem pushAll_mem {k : Int} (h0 : 0 ≤ k) : ∀ (ks q : List Int), k ∈ ks → k ∈ pushAll q ks
  | [], _, h => absurd h (by simp)
  | c :: ks, q, h => by
    rcases List.mem_cons.1 h with rfl | h
    · exact mem_pushAll ks _ (push_mem h0)
    · exact pushAll_mem h0 ks (push q c) h
theorem pushAll_pre : ∀ (ks q : List Int), ∃ s, pushAll q ks = q ++ s
  | [], q => ⟨[], by simp [pushAll]⟩
  | k :: ks, q => by
    obtain ⟨s, hs⟩ := pushAll_pre ks (push q k)
    have e : pushAll q (k :: ks) = pushAll (push q k) ks := rfl
    rw [e, hs]
    unfold push
    split
    · exact ⟨k :: s, by simp⟩
    · exact ⟨s, rfl⟩
theorem bfs_pre (nb : Int → List Int) : ∀ (f : Nat) (q : List Int) (i : Nat), ∃ s, bfs nb f q i = q ++ s
  | 0, q, i => ⟨[], by simp [bfs]⟩
  | f + 1, q, i => by
    rw [bfs]
    split
    · rename_i h
      obtain ⟨s, hs⟩ := pushAll_pre (nb q[i]) q
      obtain ⟨s', hs'⟩ := bfs_pre nb f (pushAll q (nb q[i])) (i + 1)
      exact ⟨s ++ s', by rw [hs', hs, List.append_assoc]⟩
    · exact ⟨[], by simp⟩
theorem bfs_closed {n : Nat} (nb : Int → List Int) (hnb : ∀ x : Int, 0 ≤ x → x < (n : Int) → ∀ k ∈ nb x, k < (n : Int)) : ∀ (f : Nat) (q : List Int) (i : Nat), Few n q → f + i = n + 1 → (∀ j (h : j < q.length), j < i → ∀ k ∈ nb q[j], 0 ≤ k → k ∈ q) →
    ∀ x ∈ bfs nb f q i, ∀ k ∈ nb x, 0 ≤ k → k ∈ bfs nb f q i
  | 0, q, i, hq, hf, hc => by
    intro x hx k hk h0
    have e : bfs nb 0 q i = q := rfl
    rw [e] at hx ⊢
    obtain ⟨j, hj, rfl⟩ := List.getElem_of_mem hx
    have := few_len hq
    exact hc j hj (by omega) k hk h0
  | f + 1, q, i, hq, hf, hc => by
    rw [bfs]
    split
    · rename_i h
      have hr := hq.2 _ (List.getElem_mem h)
      have hp := few_pushAll (nb q[i]) q hq (hnb _ hr.1 hr.2)
      refine bfs_closed nb hnb f _ (i + 1) hp.1 (by omega) ?_
      intro j hj hji k hk h0
      obtain ⟨s, hs⟩ := pushAll_pre (nb q[i]) q
      have hjq : j < q.length := by omega
      have e : (pushAll q (nb q[i]))[j] = q[j] := by simp [hs, List.getElem_append_left hjq]
      rw [e] at hk
      by_cases hji2 : j = i
      · subst hji2
        exact pushAll_mem h0 _ _ hk
      · exact mem_pushAll _ _ (hc j hjq (by omega) k hk h0)
    · rename_i h
      intro x hx k hk h0
      obtain ⟨j, hj, rfl⟩ := List.getElem_of_mem hx
      exact hc j hj (by omega) k hk h0
theorem bfs_sub (nb : Int → List Int) (P : Int → Prop) (hP : ∀ x, P x → ∀ k ∈ nb x, 0 ≤ k → P k) : ∀ (f : Nat) (q : List Int) (i : Nat), (∀ x ∈ q, P x) → ∀ x ∈ bfs nb f q i, P x
  | 0, q, i, h => h
  | f + 1, q, i, h => by
    rw [bfs]
    split
    · rename_i hi
      refine bfs_sub nb P hP f _ (i + 1) ?_
      have hx := h _ (List.getElem_mem hi)
      have all : ∀ (ks q : List Int), (∀ k ∈ ks, 0 ≤ k → P k) → (∀ x ∈ q, P x) → ∀ x ∈ pushAll q ks, P x := by
        intro ks
        induction ks with
        | nil => exact fun q _ h => h
        | cons k ks ih =>
          intro q hk hq
          refine ih (push q k) (fun z hz => hk z (List.mem_cons_of_mem _ hz)) ?_
          intro z hz
          unfold push at hz
          split at hz
          · rename_i hc
            rcases List.mem_append.1 hz with hz | hz
            · exact hq z hz
            · simp at hz
              subst hz
              exact hk z List.mem_cons_self hc.1
          · exact hq z hz
      exact all _ q (fun k hk h0 => hP _ hx k hk h0) h
    · exact h

def permSGo (n : Int) : List Int → List Int → Bool
  | _, [] => true
  | pre, x :: xs => if 0 ≤ x ∧ x ≤ n - 1 then (if x ∈ pre then false else permSGo n (pre ++ [x]) xs) else false
def permSB (p : List Int) : Bool := if p.length ≤ 24 then permSGo p.length [] p else false

def isPerm (p : List Int) : Prop := p.length ≤ 24 ∧ (∀ x ∈ p, 0 ≤ x ∧ x < (p.length : Int)) ∧ p.Nodup
theorem perm_go (n : Nat) (hn : n ≤ 24) : ∀ (p pre : List Int) (seen : List Bool), seen.length = 24 → (∀ x : Int, 0 ≤ x → x < n → (seen.getD x.toNat false = true ↔ x ∈ pre)) →
    permGo n p seen = permSGo n pre p := by
  intro p
  induction p with
  | nil => intro pre seen _ _; rfl
  | cons x p ih =>
    intro pre seen hl hs
    simp only [permGo, permSGo]
    by_cases h0 : x < 0
    · rw [if_pos h0, if_neg (by omega)]
    · rw [if_neg h0]
      by_cases h1 : (n : Int) ≤ x
      · rw [if_pos h1, if_neg (by omega)]
      · rw [if_neg h1, if_pos (show 0 ≤ x ∧ x ≤ (n : Int) - 1 by omega)]
        have hx := hs x (by omega) (by omega)
        by_cases h2 : x ∈ pre
        · rw [if_pos (hx.2 h2), if_pos h2]
        · rw [if_neg (fun h => h2 (hx.1 h)), if_neg h2]
          refine ih _ _ (by simpa using hl) (fun y hy0 hy1 => ?_)
          by_cases hxy : x = y
          · subst hxy
            have : x.toNat < seen.length := by omega
            simp [List.getD, this]
          · have hne : x.toNat ≠ y.toNat := by omega
            have := hs y hy0 hy1
            simp only [List.getD, List.getElem?_set_ne hne]
            rw [List.getD] at this
            rw [this]
            simp [Ne.symm hxy]
theorem perm_same (p : List Int) : permB p = permSB p := by
  unfold permB permSB
  by_cases h : p.length ≤ 24
  · rw [if_pos h, if_pos h]
    refine perm_go p.length h p [] no24 rfl (fun x h0 h1 => ?_)
    have : no24.getD x.toNat false = false := by
      unfold no24
      simp only [List.getD, List.getElem?_replicate]
      split <;> rfl
    rw [this]
    simp
  · rw [if_neg h, if_neg h]
theorem permS_iff (n : Nat) : ∀ (p pre : List Int), permSGo n pre p = true ↔ ((∀ x ∈ p, 0 ≤ x ∧ x < (n : Int)) ∧ (∀ x ∈ p, x ∉ pre) ∧ p.Nodup)
  | [], pre => by simp [permSGo]
  | x :: p, pre => by
    simp only [permSGo]
    by_cases h : 0 ≤ x ∧ x ≤ (n : Int) - 1
    · rw [if_pos h]
      by_cases h2 : x ∈ pre
      · rw [if_pos h2]
        simp [h2]
      · rw [if_neg h2, permS_iff n p (pre ++ [x])]
        simp only [List.mem_cons, forall_eq_or_imp, List.nodup_cons]
        constructor
        · rintro ⟨h3, h4, h5⟩
          exact ⟨⟨by omega, h3⟩, ⟨h2, fun y hy hp => h4 y hy (List.mem_append.2 (.inl hp))⟩, fun hx => h4 x hx (List.mem_append.2 (.inr (List.mem_singleton.2 rfl))), h5⟩
        · rintro ⟨h3, h4, h5, h6⟩
          refine ⟨h3.2, fun y hy hp => ?_, h6⟩
          rcases List.mem_append.1 hp with hp | hp
          · exact h4.2 y hy hp
          · rw [List.mem_singleton.1 hp] at hy
            exact h5 hy
    · rw [if_neg h]
      simp only [Bool.false_eq_true, List.mem_cons, forall_eq_or_imp, false_iff]
      intro h2
      omega
theorem permB_iff (p : List Int) : permB p = true ↔ isPerm p := by
  rw [perm_same]
  unfold permSB isPerm
  by_cases h : p.length ≤ 24
  · rw [if_pos h, permS_iff]
    simp [h]
  · rw [if_neg h]
    simp [h]

def flagsOf (n : Nat) (q : List Int) : List Bool := (List.range n).map (fun (i : Nat) => decide ((i : Int) ∈ q))
theorem flagsOf_len (n : Nat) (q : List Int) : (flagsOf n q).length = n := by simp [flagsOf]
theorem flagsOf_nil (n : Nat) : flagsOf n [] = List.replicate n false := by
  apply List.ext_getElem?
  intro i
  by_cases h : i < n <;> simp [flagsOf, List.getElem?_replicate, h]
theorem flagsOf_rd (n : Nat) (q : List Int) {x : Int} (h0 : 0 ≤ x) (h1 : x < n) : rdOf false (flagsOf n q) x = decide (x ∈ q) := by
  have e : ((x.toNat : Nat) : Int) = x := by omega
  simp [rdOf, flagsOf, List.getD, show x.toNat < n by omega, e]
theorem flagsOf_set (n : Nat) (q : List Int) {x : Int} (h0 : 0 ≤ x) (h1 : x < n) : (flagsOf n q).set x.toNat true = flagsOf n (q ++ [x]) := by
  apply List.ext_getElem?
  intro i
  have hl : x.toNat < (flagsOf n q).length := by rw [flagsOf_len]; omega
  by_cases h : i = x.toNat
  · subst h
    have e : ((x.toNat : Nat) : Int) = x := by omega
    simp [flagsOf, show x.toNat < n by omega, e]
  · have hne : ((i : Nat) : Int) ≠ x := by omega
    rw [List.getElem?_set_ne (by omega)]
    by_cases hi : i < n <;> simp [flagsOf, hi, hne]
theorem perm_rd {p : List Int} (h : isPerm p) {x : Int} (h0 : 0 ≤ x) (h1 : x < p.length) : 0 ≤ rd p x ∧ rd p x < (p.length : Int) := by
  have e : rd p x = p[x.toNat]'(by omega) := by simp [rd, List.getD, show x.toNat < p.length by omega]
  rw [e]
  exact h.2.1 _ (List.getElem_mem _)

def nbT (r u : List Int) (x : Int) : List Int := [rd r x, rd u x]
theorem nbT_lt {rr u : List Int} (hr : isPerm rr) (hu : isPerm u) (he : rr.length = u.length) {x : Int} (h0 : 0 ≤ x) (h1 : x < rr.length) : ∀ k ∈ nbT rr u x, 0 ≤ k ∧ k < (rr.length : Int) := by
  intro k hk
  have a := perm_rd hr h0 h1
  have b := perm_rd hu h0 (by omega)
  simp only [nbT, List.mem_cons, List.not_mem_nil, or_false] at hk
  rcases hk with rfl | rfl <;> omega
def reachOf (r u : List Int) : List Int := bfs (nbT r u) (r.length + 1) [0] 0
def transB (r u : List Int) : Bool := permB r && permB u && decide (r.length = u.length) && decide (0 < r.length) && ((reachOf r u).length : Int) == (r.length : Int)
theorem few_z {n : Nat} (h : 1 ≤ n) : Few n [0] := ⟨by simp, fun x hx => by simp at hx; subst hx; omega⟩
theorem i_trans_l1 (rr u : List Int) (n : Nat) (hn : n ≤ 24) (x8 : Int) (hx : 0 ≤ x8 ∧ x8 ≤ 1000) (ys : List Int) (hy : ys.length ≤ 1000) (r : Bool) : ∀ (suf pre q : List Int), ys = pre ++ suf → Few n q → (∀ k ∈ suf, 0 ≤ k ∧ k < (n : Int)) →
    Ev (fun k => i_IsTransitive.l0 k rr u (flagsOf n (pushAll q suf)) (pushAll q suf) (x8 + 1)) r → Ev (fun k => i_IsTransitive.l1 k rr u (flagsOf n q) q x8 ys (ys.length : Int) (pre.length : Int)) r := by
  intro suf
  induction suf with
  | nil =>
    intro pre q h hq hk hr
    subst h
    refine ev_up ?_
    simp only [i_IsTransitive.l1, if_neg (nlt_end pre), pw_wrap (a := x8 + 1) (by omega) (by omega)]
    exact hr
  | cons c suf ih =>
    intro pre q h hq hk hr
    have hc := hk c (by simp)
    have hf := few_push hq hc.2
    have hi := ih (pre ++ [c]) (push q c) (by simp [h]) hf (fun k h' => hk k (by simp [h'])) hr
    subst h
    have hql := few_len hq
    refine ev_up ?_
    simp only [i_IsTransitive.l1, if_pos (lt_mid pre suf c), if_pos (Int.natCast_nonneg pre.length), rd_mid, wrap_snoc (x := c) (s := suf) (p := pre) (by simp at hy ⊢; omega), if_pos hc.1, flagsOf_len, if_pos hc.2, flagsOf_rd n q hc.1 hc.2]
    by_cases hm : c ∈ q
    · simp only [decide_eq_true hm, if_true]
      unfold push at hi
      rw [if_neg (fun h => h.2 hm)] at hi
      exact hi
    · simp only [decide_eq_false hm, Bool.false_eq_true, if_false, if_pos (show q.length < 17592186044416 by omega), flagsOf_set n q hc.1 hc.2]
      unfold push at hi
      rw [if_pos ⟨hc.1, hm⟩] at hi
      exact hi
theorem i_trans_l0 {rr u : List Int} (hr : isPerm rr) (hu : isPerm u) (he : rr.length = u.length) : ∀ (f : Nat) (q : List Int) (i : Nat), Few rr.length q → i ≤ q.length → f + i = rr.length + 1 →
    Ev (fun k => i_IsTransitive.l0 k rr u (flagsOf rr.length q) q (i : Int)) (((bfs (nbT rr u) f q i).length : Int) == (rr.length : Int)) := by
  intro f
  have hn := hr.1
  induction f with
  | zero =>
    intro q i hq hi hf
    have := few_len hq
    omega
  | succ f ih =>
    intro q i hq hi hf
    have hql := few_len hq
    refine ev_up ?_
    by_cases h : i < q.length
    · have hx := hq.2 _ (List.getElem_mem h)
      simp only [i_IsTransitive.l0, if_pos (show ((i : Nat) : Int) < (q.length : Int) by omega), if_pos (Int.natCast_nonneg i), rd_get q i h, if_pos hx.1, if_pos hx.2, if_pos (show q[i] < (u.length : Int) by omega), Option.bind_some]
      have hlt := nbT_lt hr hu he hx.1 hx.2
      have hp := few_pushAll _ q hq (fun k hk => (hlt k hk).2)
      have := ih _ (i + 1) hp.1 (by have := hp.2; omega) (by omega)
      rw [bfs, dif_pos h]
      exact i_trans_l1 rr u rr.length hn i (by omega) (nbT rr u q[i]) (by simp [nbT]) _ _ [] q rfl hq hlt this
    · simp only [i_IsTransitive.l0, if_neg (show ¬ ((i : Nat) : Int) < (q.length : Int) by omega)]
      rw [bfs_done _ _ _ _ h]
      exact Ev.now _
theorem i_trans (r u : List Int) : Ev (fun k => i_IsTransitive.f k r u) (transB r u) := by
  unfold i_IsTransitive.f transB
  have hbad : ∀ b : Bool, b = false → Ev (fun k => i_IsTransitive.j0 k r u true) b := by
    rintro b rfl
    refine ev_up ?_
    simp only [i_IsTransitive.j0, if_true]
    exact Ev.now _
  simp only [i_PermOk.f, Option.bind_some]
  by_cases h1 : permB r = true
  · simp only [h1, if_true, Bool.true_and]
    by_cases h2 : permB u = true
    · simp only [h2, if_true, Bool.true_and]
      by_cases h3 : r.length = u.length
      · simp only [if_pos (show (r.length : Int) = u.length by omega), decide_eq_true h3, Bool.true_and]
        by_cases h4 : 0 < r.length
        · have hn := ((permB_iff r).1 h1).1
          have e : ((r.length : Int) == 0) = false := by simp; intro e; rw [e] at h4; exact absurd h4 (by simp)
          rw [e]
          simp only [decide_eq_true h4, Bool.true_and]
          refine ev_up ?_
          have hset : (List.replicate r.length false).set (0 : Int).toNat true = flagsOf r.length [0] := by
            rw [← flagsOf_nil, flagsOf_set r.length [] (by omega) (by omega)]
            rfl
          simp only [i_IsTransitive.j0, Bool.false_eq_true, if_false, if_pos (Int.natCast_nonneg r.length), Int.toNat_natCast, if_pos (show r.length ≤ 281474976710656 by omega), Option.bind_some, List.length_replicate, if_pos (show (0 : Int) < (r.length : Int) by omega), hset]
          exact i_trans_l0 ((permB_iff r).1 h1) ((permB_iff u).1 h2) h3 _ [0] 0 (few_z h4) (by simp) (by omega)
        · have e : ((r.length : Int) == 0) = true := by
            have : r.length = 0 := by omega
            rw [this]; rfl
          rw [e]
          simp only [decide_eq_false h4, Bool.false_and]
          exact hbad _ rfl
      · simp only [if_neg (show ¬ (r.length : Int) = u.length by omega), decide_eq_false h3, Bool.false_and]
        exact hbad _ rfl
    · simp only [Bool.eq_false_iff.2 h2, Bool.false_eq_true, if_false, Bool.false_and]
      exact hbad _ rfl
  · simp only [Bool.eq_false_iff.2 h1, Bool.false_eq_true, if_false, Bool.false_and]
    exact hbad _ rfl
theorem transB_side {r u : List Int} (h : transB r u = true) : isPerm r ∧ isPerm u ∧ r.length = u.length ∧ 0 < r.length ∧ (reachOf r u).length = r.length := by
  unfold transB at h
  simp only [Bool.and_eq_true, decide_eq_true_eq, beq_iff_eq] at h
  obtain ⟨⟨⟨⟨h1, h2⟩, h3⟩, h4⟩, h5⟩ := h
  exact ⟨(permB_iff r).1 h1, (permB_iff u).1 h2, h3, h4, by omega⟩
theorem i_surfOk (r u : List Int) : Ev (fun k => i_SurfaceOk.f k r u) (transB r u) := Ev.bind (i_trans r u) (Ev.now _)

theorem dirX_bd {k : Int} (h0 : 0 ≤ k) (h1 : k < 4) : 0 ≤ k + dirX k ∧ k + dirX k < 4 ∧ dirX (k + dirX k) = -dirX k ∧ (dirX k = 1 ∨ dirX k = -1) := by
  unfold dirX
  have : k = 0 ∨ k = 1 ∨ k = 2 ∨ k = 3 := by omega
  rcases this with rfl | rfl | rfl | rfl <;> decide
theorem dirY_bd {k : Int} (h0 : 0 ≤ k) (h1 : k < 4) : 0 ≤ k + dirY k * 2 ∧ k + dirY k * 2 < 4 ∧ dirY (k + dirY k * 2) = -dirY k ∧ (dirY k = 1 ∨ dirY k = -1) := by
  unfold dirY
  have : k = 0 ∨ k = 1 ∨ k = 2 ∨ k = 3 := by omega
  rcases this with rfl | rfl | rfl | rfl <;> decide
abbrev cx (l : List Cl) (i : Int) : Int := (rd_T41 l i).f0
abbrev cy (l : List Cl) (i : Int) : Int := (rd_T41 l i).f1
def stepX (l : List Cl) (s : Int) (i k : Int) : Int := if cellAt l (cx l i + s) (cy l i) < 0 then 4 * i + (k + dirX k) else 4 * cellAt l (cx l i + s) (cy l i) + k
def stepY (l : List Cl) (s : Int) (i k : Int) : Int := if cellAt l (cx l i) (cy l i + s) < 0 then 4 * i + (k + dirY k * 2) else 4 * cellAt l (cx l i) (cy l i + s) + k
theorem gR_form (l : List Cl) {i k : Int} (h0 : 0 ≤ k) (h1 : k < 4) : gR l (4 * i + k) = stepX l (dirX k) i k := by
  have e1 : (4 * i + k) / 4 = i := by omega
  have e2 : (4 * i + k) % 4 = k := by omega
  unfold gR stepX cx cy
  simp only [e1, e2]
  split <;> omega
theorem gU_form (l : List Cl) {i k : Int} (h0 : 0 ≤ k) (h1 : k < 4) : gU l (4 * i + k) = stepY l (dirY k) i k := by
  have e1 : (4 * i + k) / 4 = i := by omega
  have e2 : (4 * i + k) % 4 = k := by omega
  unfold gU stepY cx cy
  simp only [e1, e2]
  split <;> omega
def backX (l : List Cl) (x : Int) : Int := stepX l (-dirX (x % 4)) (x / 4) (x % 4)
def backY (l : List Cl) (x : Int) : Int := stepY l (-dirY (x % 4)) (x / 4) (x % 4)
theorem backX_gR {l : List Cl} (hv : vGo none l = true) {x : Int} (h0 : 0 ≤ x) (h1 : x < 4 * l.length) : backX l (gR l x) = x := by
  obtain ⟨i, k, rfl, i0, i1, k0, k1⟩ : ∃ i k : Int, x = 4 * i + k ∧ 0 ≤ i ∧ i < l.length ∧ 0 ≤ k ∧ k < 4 := ⟨x / 4, x % 4, by omega, by omega, by omega, by omega, by omega⟩
  obtain ⟨d0, d1, d2, d3⟩ := dirX_bd k0 k1
  rw [gR_form l k0 k1]
  unfold stepX
  by_cases hj : cellAt l (cx l i + dirX k) (cy l i) < 0
  · rw [if_pos hj]
    unfold backX stepX
    rw [show (4 * i + (k + dirX k)) / 4 = i from by omega, show (4 * i + (k + dirX k)) % 4 = k + dirX k from by omega, d2, show - -dirX k = dirX k from by omega, if_pos hj]
    omega
  · rw [if_neg hj]
    have hh := cellAt_hit (l := l) (x := cx l i + dirX k) (y := cy l i) (by omega)
    have hb := cellAt_bd l (cx l i + dirX k) (cy l i)
    have hs := cellAt_self hv i0 i1
    generalize hJ : cellAt l (cx l i + dirX k) (cy l i) = j at *
    unfold backX stepX cx cy
    rw [show (4 * j + k) / 4 = j from by omega, show (4 * j + k) % 4 = k from by omega, hh.1, hh.2]
    rw [show cx l i + dirX k + -dirX k = cx l i from by omega, hs, if_neg (by omega)]
theorem backY_gU {l : List Cl} (hv : vGo none l = true) {x : Int} (h0 : 0 ≤ x) (h1 : x < 4 * l.length) : backY l (gU l x) = x := by
  obtain ⟨i, k, rfl, i0, i1, k0, k1⟩ : ∃ i k : Int, x = 4 * i + k ∧ 0 ≤ i ∧ i < l.length ∧ 0 ≤ k ∧ k < 4 := ⟨x / 4, x % 4, by omega, by omega, by omega, by omega, by omega⟩
  obtain ⟨d0, d1, d2, d3⟩ := dirY_bd k0 k1
  rw [gU_form l k0 k1]
  unfold stepY
  by_cases hj : cellAt l (cx l i) (cy l i + dirY k) < 0
  · rw [if_pos hj]
    unfold backY stepY
    rw [show (4 * i + (k + dirY k * 2)) / 4 = i from by omega, show (4 * i + (k + dirY k * 2)) % 4 = k + dirY k * 2 from by omega, d2, show - -dirY k = dirY k from by omega, if_pos hj]
    omega
  · rw [if_neg hj]
    have hh := cellAt_hit (l := l) (x := cx l i) (y := cy l i + dirY k) (by omega)
    have hb := cellAt_bd l (cx l i) (cy l i + dirY k)
    have hs := cellAt_self hv i0 i1
    generalize hJ : cellAt l (cx l i) (cy l i + dirY k) = j at *
    unfold backY stepY cx cy
    rw [show (4 * j + k) / 4 = j from by omega, show (4 * j + k) % 4 = k from by omega, hh.1, hh.2]
    rw [show cy l i + dirY k + -dirY k = cy l i from by omega, hs, if_neg (by omega)]
theorem gR_bd {l : List Cl} {x : Int} (h0 : 0 ≤ x) (h1 : x < 4 * l.length) : 0 ≤ gR l x ∧ gR l x < 4 * l.length := by
  obtain ⟨i, k, rfl, i0, i1, k0, k1⟩ : ∃ i k : Int, x = 4 * i + k ∧ 0 ≤ i ∧ i < l.length ∧ 0 ≤ k ∧ k < 4 := ⟨x / 4, x % 4, by omega, by omega, by omega, by omega, by omega⟩
  obtain ⟨d0, d1, _⟩ := dirX_bd k0 k1
  rw [gR_form l k0 k1]
  have hb := cellAt_bd l (cx l i + dirX k) (cy l i)
  unfold stepX
  split <;> omega
theorem gU_bd {l : List Cl} {x : Int} (h0 : 0 ≤ x) (h1 : x < 4 * l.length) : 0 ≤ gU l x ∧ gU l x < 4 * l.length := by
  obtain ⟨i, k, rfl, i0, i1, k0, k1⟩ : ∃ i k : Int, x = 4 * i + k ∧ 0 ≤ i ∧ i < l.length ∧ 0 ≤ k ∧ k < 4 := ⟨x / 4, x % 4, by omega, by omega, by omega, by omega, by omega⟩
  obtain ⟨d0, d1, _⟩ := dirY_bd k0 k1
  rw [gU_form l k0 k1]
  have hb := cellAt_bd l (cx l i) (cy l i + dirY k)
  unfold stepY
  split <;> omega
theorem mem_vals (g : Int → Int) (y : Int) : ∀ (d : Nat) (s : Int), y ∈ vals g d s ↔ ∃ x, s ≤ x ∧ x < s + d ∧ y = g x
  | 0, s => by
    simp only [vals, List.not_mem_nil, false_iff]
    rintro ⟨x, h0, h1, _⟩
    omega
  | d + 1, s => by
    rw [vals, List.mem_cons, mem_vals g y d (s + 1)]
    constructor
    · rintro (rfl | ⟨x, h0, h1, rfl⟩)
      · exact ⟨s, by omega, by omega, rfl⟩
      · exact ⟨x, by omega, by omega, rfl⟩
    · rintro ⟨x, h0, h1, rfl⟩
      by_cases hx : x = s
      · exact .inl (by rw [hx])
      · exact .inr ⟨x, by omega, by omega, rfl⟩
theorem vals_nodup (g : Int → Int) : ∀ (d : Nat) (s : Int), (∀ x y, s ≤ x → x < s + d → s ≤ y → y < s + d → g x = g y → x = y) → (vals g d s).Nodup
  | 0, _, _ => List.nodup_nil
  | d + 1, s, h => by
    rw [vals, List.nodup_cons]
    refine ⟨fun hm => ?_, vals_nodup g d (s + 1) (fun x y a b c e he => h x y (by omega) (by omega) (by omega) (by omega) he)⟩
    obtain ⟨x, h0, h1, e⟩ := (mem_vals g _ d (s + 1)).1 hm
    have := h s x (by omega) (by omega) (by omega) (by omega) e
    omega
theorem rd_vals (g : Int → Int) : ∀ (d : Nat) (s : Int) (i : Nat), i < d → rd (vals g d s) (i : Int) = g (s + i)
  | 0, _, i, h => absurd h (by omega)
  | d + 1, s, 0, _ => by simp [vals, rd, List.getD]
  | d + 1, s, i + 1, h => by
    have := rd_vals g d (s + 1) i (by omega)
    have e : rd (vals g (d + 1) s) ((i + 1 : Nat) : Int) = rd (vals g d (s + 1)) (i : Int) := by
      simp only [rd, vals]
      rw [show (((i + 1 : Nat) : Int)).toNat = i + 1 from by omega, show ((i : Int)).toNat = i from by omega]
      rfl
    rw [e, this]
    congr 1
    omega
theorem unfR_perm {l : List Cl} (h : tableB l = true) : isPerm (unfR l) := by
  obtain ⟨hn, _, hv, _⟩ := tableB_side h
  have e : (unfR l).length = 4 * l.length := vals_len _ _ _
  refine ⟨by omega, fun x hx => ?_, ?_⟩
  · obtain ⟨y, h0, h1, rfl⟩ := (mem_vals _ _ _ _).1 hx
    have := gR_bd (l := l) (x := y) h0 (by omega)
    omega
  · refine vals_nodup _ _ _ (fun x y a b c d hxy => ?_)
    have p := backX_gR hv (x := x) a (by omega)
    have q := backX_gR hv (x := y) c (by omega)
    rw [← p, ← q, hxy]
theorem unfU_perm {l : List Cl} (h : tableB l = true) : isPerm (unfU l) := by
  obtain ⟨hn, _, hv, _⟩ := tableB_side h
  have e : (unfU l).length = 4 * l.length := vals_len _ _ _
  refine ⟨by omega, fun x hx => ?_, ?_⟩
  · obtain ⟨y, h0, h1, rfl⟩ := (mem_vals _ _ _ _).1 hx
    have := gU_bd (l := l) (x := y) h0 (by omega)
    omega
  · refine vals_nodup _ _ _ (fun x y a b c d hxy => ?_)
    have p := backY_gU hv (x := x) a (by omega)
    have q := backY_gU hv (x := y) c (by omega)
    rw [← p, ← q, hxy]

theorem sub_len : ∀ (l m : List Int), l.Nodup → (∀ x ∈ l, x ∈ m) → l.length ≤ m.length
  | [], _, _, _ => by simp
  | x :: l, m, hn, h => by
    have hn2 := List.nodup_cons.1 hn
    have := sub_len l (m.erase x) hn2.2 (fun y hy => (List.mem_erase_of_ne (fun (e : y = x) => hn2.1 (by rw [← e]; exact hy))).2 (h y (List.mem_cons_of_mem _ hy)))
    have hm := h x List.mem_cons_self
    rw [List.length_erase_of_mem hm] at this
    have := List.length_pos_of_mem hm
    simp only [List.length_cons]
    omega
theorem sub_back {l m : List Int} (hn : l.Nodup) (hl : l.length = m.length) (h : ∀ x ∈ l, x ∈ m) : ∀ x ∈ m, x ∈ l := by
  intro x hx
  refine Classical.byContradiction fun hc => ?_
  have := sub_len (x :: l) m (List.nodup_cons.2 ⟨hc, hn⟩) (fun y hy => by
    rcases List.mem_cons.1 hy with rfl | hy
    · exact hx
    · exact h y hy)
  simp at this
  omega
theorem few_all {n : Nat} {q : List Int} (h : Few n q) (hl : q.length = n) {x : Int} (h0 : 0 ≤ x) (h1 : x < (n : Int)) : x ∈ q := by
  refine Classical.byContradiction fun hc => ?_
  have hf : Few n (x :: q) := ⟨List.nodup_cons.2 ⟨hc, h.1⟩, fun y hy => by
    rcases List.mem_cons.1 hy with rfl | hy
    · exact ⟨h0, h1⟩
    · exact h.2 y hy⟩
  have := few_len hf
  simp only [List.length_cons] at this
  omega
theorem adjX {l : List Cl} (hv : vGo none l = true) (P : Int → Prop) (hR : ∀ x : Int, 0 ≤ x → x < 4 * l.length → (P x ↔ P (gR l x))) {i k s : Int} (i0 : 0 ≤ i) (i1 : i < l.length) (k0 : 0 ≤ k) (k1 : k < 4) (hs : s = 1 ∨ s = -1) (hj : 0 ≤ cellAt l (cx l i + s) (cy l i)) :
    P (4 * i + k) ↔ P (4 * cellAt l (cx l i + s) (cy l i) + k) := by
  obtain ⟨_, _, _, d3⟩ := dirX_bd k0 k1
  have hh := cellAt_hit (l := l) (x := cx l i + s) (y := cy l i) hj
  have hb := cellAt_bd l (cx l i + s) (cy l i)
  have hself := cellAt_self hv i0 i1
  by_cases hd : dirX k = s
  · rw [hR (4 * i + k) (by omega) (by omega), gR_form l k0 k1, stepX, hd, if_neg (by omega)]
  · have hd2 : dirX k = -s := by omega
    generalize hJ : cellAt l (cx l i + s) (cy l i) = j at *
    rw [hR (4 * j + k) (by omega) (by omega), gR_form l k0 k1, stepX, hd2]
    have e1 : cx l j = cx l i + s := hh.1
    have e2 : cy l j = cy l i := hh.2
    have e3 : cellAt l (cx l i) (cy l i) = i := hself
    rw [e1, e2, show cx l i + s + -s = cx l i from by omega, e3, if_neg (by omega)]
theorem adjY {l : List Cl} (hv : vGo none l = true) (P : Int → Prop) (hU : ∀ x : Int, 0 ≤ x → x < 4 * l.length → (P x ↔ P (gU l x))) {i k s : Int} (i0 : 0 ≤ i) (i1 : i < l.length) (k0 : 0 ≤ k) (k1 : k < 4) (hs : s = 1 ∨ s = -1) (hj : 0 ≤ cellAt l (cx l i) (cy l i + s)) :
    P (4 * i + k) ↔ P (4 * cellAt l (cx l i) (cy l i + s) + k) := by
  obtain ⟨_, _, _, d3⟩ := dirY_bd k0 k1
  have hh := cellAt_hit (l := l) (x := cx l i) (y := cy l i + s) hj
  have hb := cellAt_bd l (cx l i) (cy l i + s)
  have hself := cellAt_self hv i0 i1
  by_cases hd : dirY k = s
  · rw [hU (4 * i + k) (by omega) (by omega), gU_form l k0 k1, stepY, hd, if_neg (by omega)]
  · have hd2 : dirY k = -s := by omega
    generalize hJ : cellAt l (cx l i) (cy l i + s) = j at *
    rw [hU (4 * j + k) (by omega) (by omega), gU_form l k0 k1, stepY, hd2]
    have e1 : cx l j = cx l i := hh.1
    have e2 : cy l j = cy l i + s := hh.2
    have e3 : cellAt l (cx l i) (cy l i) = i := hself
    rw [e1, e2, show cy l i + s + -s = cy l i from by omega, e3, if_neg (by omega)]
theorem adjN {l : List Cl} (hv : vGo none l = true) (P : Int → Prop) (hR : ∀ x : Int, 0 ≤ x → x < 4 * l.length → (P x ↔ P (gR l x))) (hU : ∀ x : Int, 0 ≤ x → x < 4 * l.length → (P x ↔ P (gU l x))) {i k j : Int} (i0 : 0 ≤ i) (i1 : i < l.length) (k0 : 0 ≤ k) (k1 : k < 4) (hj : j ∈ nbrs l i) (j0 : 0 ≤ j) :
    P (4 * i + k) ↔ P (4 * j + k) := by
  simp only [nbrs, List.mem_cons, List.not_mem_nil, or_false] at hj
  rcases hj with rfl | rfl | rfl | rfl
  · exact adjX hv P hR i0 i1 k0 k1 (.inl rfl) j0
  · exact adjX hv P hR i0 i1 k0 k1 (.inr rfl) j0
  · exact adjY hv P hU i0 i1 k0 k1 (.inl rfl) j0
  · exact adjY hv P hU i0 i1 k0 k1 (.inr rfl) j0
theorem sheet {l : List Cl} (h : tableB l = true) (P : Int → Prop) (hR : ∀ x : Int, 0 ≤ x → x < 4 * l.length → (P x ↔ P (gR l x))) (hU : ∀ x : Int, 0 ≤ x → x < 4 * l.length → (P x ↔ P (gU l x))) {i k : Int} (i0 : 0 ≤ i) (i1 : i < l.length) (k0 : 0 ≤ k) (k1 : k < 4) :
    P (4 * i + k) ↔ P k := by
  obtain ⟨hn, _, hv, hw⟩ := tableB_side h
  have hfew : Few l.length (bfs (nbrs l) (l.length + 1) [0] 0) := bfs_few (nbrs l) (fun x _ _ => nbrs_lt l x) _ _ _ (few_zero hn.1)
  have hlen : (bfs (nbrs l) (l.length + 1) [0] 0).length = l.length := by
    simp only [whole, beq_iff_eq] at hw
    omega
  have hi := few_all hfew hlen i0 i1
  have hall := bfs_sub (nbrs l) (fun x => (0 ≤ x ∧ x < l.length) ∧ (P (4 * x + k) ↔ P k)) (fun x hx j hj j0 => by
    refine ⟨⟨j0, nbrs_lt l x j hj⟩, ?_⟩
    rw [← adjN hv P hR hU hx.1.1 hx.1.2 k0 k1 hj j0]
    exact hx.2) (l.length + 1) [0] 0 (fun x hx => by
      simp only [List.mem_singleton] at hx
      subst hx
      exact ⟨⟨by omega, by omega⟩, by simp⟩)
  exact (hall i hi).2
theorem edgeX {l : List Cl} (hn : 1 ≤ l.length) (hv : Near0 l) : ∃ i : Int, 0 ≤ i ∧ i < l.length ∧ cellAt l (cx l i + 1) (cy l i) < 0 := by
  refine Classical.byContradiction fun hc => ?_
  have hall : ∀ i : Int, 0 ≤ i → i < l.length → 0 ≤ cellAt l (cx l i + 1) (cy l i) := fun i h0 h1 => by
    refine Classical.byContradiction fun h2 => hc ⟨i, h0, h1, by omega⟩
  have hm : ∀ m : Nat, ∃ i : Int, 0 ≤ i ∧ i < l.length ∧ (m : Int) ≤ cx l i := by
    intro m
    induction m with
    | zero => exact ⟨0, by omega, by omega, by have := near_rd hv (i := 0) (by omega) (by omega); exact this.1⟩
    | succ m ih =>
      obtain ⟨i, h0, h1, h2⟩ := ih
      have hj := hall i h0 h1
      have hh := cellAt_hit hj
      refine ⟨_, hj, (cellAt_bd l _ _).2, ?_⟩
      have e : cx l (cellAt l (cx l i + 1) (cy l i)) = cx l i + 1 := hh.1
      omega
  obtain ⟨i, h0, h1, h2⟩ := hm 10
  have hr : cx l i ≤ 9 := (near_rd hv h0 h1).2.1
  omega
theorem edgeY {l : List Cl} (hn : 1 ≤ l.length) (hv : Near0 l) : ∃ i : Int, 0 ≤ i ∧ i < l.length ∧ cellAt l (cx l i) (cy l i + 1) < 0 := by
  refine Classical.byContradiction fun hc => ?_
  have hall : ∀ i : Int, 0 ≤ i → i < l.length → 0 ≤ cellAt l (cx l i) (cy l i + 1) := fun i h0 h1 => by
    refine Classical.byContradiction fun h2 => hc ⟨i, h0, h1, by omega⟩
  have hm : ∀ m : Nat, ∃ i : Int, 0 ≤ i ∧ i < l.length ∧ (m : Int) ≤ cy l i := by
    intro m
    induction m with
    | zero => exact ⟨0, by omega, by omega, by have := near_rd hv (i := 0) (by omega) (by omega); exact this.2.2.1⟩
    | succ m ih =>
      obtain ⟨i, h0, h1, h2⟩ := ih
      have hj := hall i h0 h1
      have hh := cellAt_hit hj
      refine ⟨_, hj, (cellAt_bd l _ _).2, ?_⟩
      have e : cy l (cellAt l (cx l i) (cy l i + 1)) = cy l i + 1 := hh.2
      omega
  obtain ⟨i, h0, h1, h2⟩ := hm 10
  have hr : cy l i ≤ 9 := (near_rd hv h0 h1).2.2.2
  omega
theorem sheets_all {l : List Cl} (h : tableB l = true) (P : Int → Prop) (hR : ∀ x : Int, 0 ≤ x → x < 4 * l.length → (P x ↔ P (gR l x))) (hU : ∀ x : Int, 0 ≤ x → x < 4 * l.length → (P x ↔ P (gU l x))) (hP : P 0) {x : Int} (h0 : 0 ≤ x) (h1 : x < 4 * l.length) : P x := by
  obtain ⟨hn, hv, _, _⟩ := tableB_side h
  have sh : ∀ i k : Int, 0 ≤ i → i < l.length → 0 ≤ k → k < 4 → (P (4 * i + k) ↔ P k) := fun i k a b c d => sheet h P hR hU a b c d
  obtain ⟨a, a0, a1, ha⟩ := edgeX hn.1 hv
  obtain ⟨b, b0, b1, hb⟩ := edgeY hn.1 hv
  have flipX : ∀ k : Int, 0 ≤ k → k < 4 → dirX k = 1 → (P k ↔ P (k + 1)) := fun k k0 k1 hk => by
    have := dirX_bd k0 k1
    rw [← sh a k a0 a1 k0 k1, hR _ (by omega) (by omega), gR_form l k0 k1, stepX, hk, if_pos ha, sh a (k + 1) a0 a1 (by omega) (by omega)]
  have flipY : ∀ k : Int, 0 ≤ k → k < 4 → dirY k = 1 → (P k ↔ P (k + 2)) := fun k k0 k1 hk => by
    have := dirY_bd k0 k1
    rw [← sh b k b0 b1 k0 k1, hU _ (by omega) (by omega), gU_form l k0 k1, stepY, hk, if_pos hb, show k + 1 * 2 = k + 2 from by omega, sh b (k + 2) b0 b1 (by omega) (by omega)]
  have p1 : P 1 := (flipX 0 (by omega) (by omega) rfl).1 hP
  have p2 : P 2 := (flipY 0 (by omega) (by omega) rfl).1 hP
  have p3 : P 3 := (flipX 2 (by omega) (by omega) rfl).1 p2
  have e : x = 4 * (x / 4) + x % 4 := by omega
  rw [e, sh (x / 4) (x % 4) (by omega) (by omega) (by omega) (by omega)]
  have hk : x % 4 = 0 ∨ x % 4 = 1 ∨ x % 4 = 2 ∨ x % 4 = 3 := by omega
  rcases hk with hk | hk | hk | hk <;> rw [hk] <;> assumption
theorem back_closed {n : Nat} {q : List Int} (hq : Few n q) (g : Int → Int) (hg : ∀ x y : Int, 0 ≤ x → x < n → 0 ≤ y → y < n → g x = g y → x = y) (hc : ∀ x ∈ q, g x ∈ q) {x : Int} (h0 : 0 ≤ x) (h1 : x < n) (hx : g x ∈ q) : x ∈ q := by
  have hn : (q.map g).Nodup := by
    have : ∀ q : List Int, (∀ x ∈ q, 0 ≤ x ∧ x < (n : Int)) → q.Nodup → (q.map g).Nodup := by
      intro q
      induction q with
      | nil => intro _ _; exact List.nodup_nil
      | cons y q ih =>
        intro hb hn
        have hn2 := List.nodup_cons.1 hn
        rw [List.map_cons, List.nodup_cons]
        refine ⟨fun hm => ?_, ih (fun z hz => hb z (List.mem_cons_of_mem _ hz)) hn2.2⟩
        obtain ⟨z, hz, e⟩ := List.mem_map.1 hm
        have b1 := hb z (List.mem_cons_of_mem _ hz)
        have b2 := hb y List.mem_cons_self
        have := hg z y b1.1 b1.2 b2.1 b2.2 e
        subst this
        exact hn2.1 hz
    exact this q hq.2 hq.1
  have hm := sub_back hn (List.length_map ..) (fun z hz => by
    obtain ⟨y, hy, rfl⟩ := List.mem_map.1 hz
    exact hc y hy) _ hx
  obtain ⟨y, hy, e⟩ := List.mem_map.1 hm
  have b := hq.2 y hy
  have := hg y x b.1 b.2 h0 h1 e
  subst this
  exact hy
theorem unf_trans {l : List Cl} (h : tableB l = true) : transB (unfR l) (unfU l) = true := by
  obtain ⟨hn, _, hv, _⟩ := tableB_side h
  have pr := unfR_perm h
  have pu := unfU_perm h
  have er : (unfR l).length = 4 * l.length := vals_len _ _ _
  have eu : (unfU l).length = 4 * l.length := vals_len _ _ _
  have rr : ∀ x : Int, 0 ≤ x → x < 4 * l.length → rd (unfR l) x = gR l x := fun x h0 h1 => by
    obtain ⟨i, rfl⟩ := Int.eq_ofNat_of_zero_le h0
    have := rd_vals (gR l) (4 * l.length) 0 i (by omega)
    rw [Int.zero_add] at this
    exact this
  have ru : ∀ x : Int, 0 ≤ x → x < 4 * l.length → rd (unfU l) x = gU l x := fun x h0 h1 => by
    obtain ⟨i, rfl⟩ := Int.eq_ofNat_of_zero_le h0
    have := rd_vals (gU l) (4 * l.length) 0 i (by omega)
    rw [Int.zero_add] at this
    exact this
  have hnb : ∀ x : Int, 0 ≤ x → x < ((unfR l).length : Int) → ∀ k ∈ nbT (unfR l) (unfU l) x, k < ((unfR l).length : Int) := fun x h0 h1 k hk => (nbT_lt pr pu (by omega) h0 h1 k hk).2
  have hf0 := few_zero (n := (unfR l).length) (by omega)
  have hfew : Few (unfR l).length (reachOf (unfR l) (unfU l)) := bfs_few _ hnb _ _ _ hf0
  have hcl : ∀ x ∈ reachOf (unfR l) (unfU l), ∀ k ∈ nbT (unfR l) (unfU l) x, 0 ≤ k → k ∈ reachOf (unfR l) (unfU l) := bfs_closed _ hnb _ _ _ hf0 rfl (fun j hj hji => absurd hji (by omega))
  have hbd : ∀ x ∈ reachOf (unfR l) (unfU l), 0 ≤ x ∧ x < 4 * l.length := fun x hx => by have := hfew.2 x hx; omega
  have cR : ∀ x ∈ reachOf (unfR l) (unfU l), gR l x ∈ reachOf (unfR l) (unfU l) := fun x hx => by
    have b := hbd x hx
    rw [← rr x b.1 b.2]
    refine hcl x hx _ (by simp [nbT]) ?_
    rw [rr x b.1 b.2]
    exact (gR_bd b.1 b.2).1
  have cU : ∀ x ∈ reachOf (unfR l) (unfU l), gU l x ∈ reachOf (unfR l) (unfU l) := fun x hx => by
    have b := hbd x hx
    rw [← ru x b.1 b.2]
    refine hcl x hx _ (by simp [nbT]) ?_
    rw [ru x b.1 b.2]
    exact (gU_bd b.1 b.2).1
  have iR : ∀ x y : Int, 0 ≤ x → x < ((unfR l).length : Int) → 0 ≤ y → y < ((unfR l).length : Int) → gR l x = gR l y → x = y := fun x y a b c d e => by
    rw [← backX_gR hv (x := x) a (by omega), ← backX_gR hv (x := y) c (by omega), e]
  have iU : ∀ x y : Int, 0 ≤ x → x < ((unfR l).length : Int) → 0 ≤ y → y < ((unfR l).length : Int) → gU l x = gU l y → x = y := fun x y a b c d e => by
    rw [← backY_gU hv (x := x) a (by omega), ← backY_gU hv (x := y) c (by omega), e]
  have h0m : (0 : Int) ∈ reachOf (unfR l) (unfU l) := by
    obtain ⟨s, hs⟩ := bfs_pre (nbT (unfR l) (unfU l)) ((unfR l).length + 1) [0] 0
    unfold reachOf
    rw [hs]
    simp
  have hall : ∀ x : Int, 0 ≤ x → x < 4 * l.length → x ∈ reachOf (unfR l) (unfU l) := fun x a b =>
    sheets_all h (fun x => x ∈ reachOf (unfR l) (unfU l)) (fun x a b => ⟨cR x, back_closed hfew (gR l) iR cR a (by omega)⟩) (fun x a b => ⟨cU x, back_closed hfew (gU l) iU cU a (by omega)⟩) h0m a b
  have hlen := sub_len (vals (fun x => x) (4 * l.length) 0) (reachOf (unfR l) (unfU l)) (vals_nodup _ _ _ (fun x y _ _ _ _ e => e)) (fun x hx => by
    obtain ⟨y, a, b, e⟩ := (mem_vals _ _ _ _).1 hx
    rw [e]
    exact hall y a (by omega))
  rw [vals_len] at hlen
  have hle := few_len hfew
  unfold transB
  rw [(permB_iff _).2 pr, (permB_iff _).2 pu, decide_eq_true (show (unfR l).length = (unfU l).length by omega), decide_eq_true (show 0 < (unfR l).length by omega), show (reachOf (unfR l) (unfU l)).length = (unfR l).length from by omega]
  simp

def ltC (p c : Cl) : Prop := p.f1 < c.f1 ∨ p.f1 = c.f1 ∧ p.f0 < c.f0
def shC (a b : Int) (c : Cl) : Cl := ⟨c.f0 + a, c.f1 + b⟩
def insC (x : Cl) : List Cl → List Cl
  | [] => [x]
  | c :: cs => if x.f1 < c.f1 ∨ x.f1 = c.f1 ∧ x.f0 < c.f0 then x :: c :: cs else c :: insC x cs
theorem insC_mem (x y : Cl) : ∀ l : List Cl, y ∈ insC x l ↔ y = x ∨ y ∈ l
  | [] => by simp [insC]
  | c :: cs => by
    rw [insC]
    split
    · simp
    · simp only [List.mem_cons, insC_mem x y cs]
      constructor
      · rintro (h | h | h)
        · exact .inr (.inl h)
        · exact .inl h
        · exact .inr (.inr h)
      · rintro (h | h | h)
        · exact .inr (.inl h)
        · exact .inl h
        · exact .inr (.inr h)
theorem insC_pw (x : Cl) : ∀ l : List Cl, l.Pairwise ltC → (∀ c ∈ l, ¬ (c.f0 = x.f0 ∧ c.f1 = x.f1)) → (insC x l).Pairwise ltC
  | [], _, _ => List.pairwise_singleton _ _
  | c :: cs, h, hx => by
    have h2 := List.pairwise_cons.1 h
    rw [insC]
    split
    · rename_i hc
      refine List.pairwise_cons.2 ⟨fun d hd => ?_, h⟩
      rcases List.mem_cons.1 hd with rfl | hd
      · exact hc
      · have := h2.1 d hd
        unfold ltC at *
        omega
    · rename_i hc
      refine List.pairwise_cons.2 ⟨fun d hd => ?_, insC_pw x cs h2.2 fun d hd => hx d (by simp [hd])⟩
      rcases (insC_mem x d cs).1 hd with rfl | hd
      · have := hx c (by simp)
        unfold ltC
        omega
      · exact h2.1 d hd
theorem pw_unique : ∀ l m : List Cl, l.Pairwise ltC → m.Pairwise ltC → (∀ y, y ∈ l ↔ y ∈ m) → l = m
  | [], m, _, _, h => by
    cases m with
    | nil => rfl
    | cons d ds => exact absurd ((h d).2 (by simp)) (by simp)
  | c :: cs, [], _, _, h => absurd ((h c).1 (by simp)) (by simp)
  | c :: cs, d :: ds, hl, hm, h => by
    have h1 := List.pairwise_cons.1 hl
    have h2 := List.pairwise_cons.1 hm
    have e : c = d := by
      rcases List.mem_cons.1 ((h c).1 (by simp)) with e | hc
      · exact e
      · rcases List.mem_cons.1 ((h d).2 (by simp)) with e | hd
        · exact e.symm
        · have a := h1.1 d hd
          have b := h2.1 c hc
          unfold ltC at a b
          omega
    subst e
    congr 1
    refine pw_unique cs ds h1.2 h2.2 fun y => ⟨fun hy => ?_, fun hy => ?_⟩
    · rcases List.mem_cons.1 ((h y).1 (by simp [hy])) with e | hy2
      · subst e
        have := h1.1 y hy
        unfold ltC at this
        omega
      · exact hy2
    · rcases List.mem_cons.1 ((h y).2 (by simp [hy])) with e | hy2
      · subst e
        have := h2.1 y hy
        unfold ltC at this
        omega
      · exact hy2
theorem insC_sh (a b : Int) (x : Cl) : ∀ l : List Cl, insC (shC a b x) (l.map (shC a b)) = (insC x l).map (shC a b)
  | [] => rfl
  | c :: cs => by
    rw [List.map_cons, insC, insC]
    by_cases h : x.f1 < c.f1 ∨ x.f1 = c.f1 ∧ x.f0 < c.f0
    · rw [if_pos h, if_pos (by simp only [shC]; omega)]
      rfl
    · rw [if_neg h, if_neg (by simp only [shC]; omega), List.map_cons, insC_sh a b x cs]
theorem shC_shC (a b c d : Int) (x : Cl) : shC a b (shC c d x) = shC (c + a) (d + b) x := by
  simp only [shC, Int.add_assoc]
theorem shC_zero (x : Cl) : shC 0 0 x = x := by simp [shC]
theorem map_shC (a b c d : Int) (l : List Cl) : (l.map (shC c d)).map (shC a b) = l.map (shC (c + a) (d + b)) := by
  rw [List.map_map]
  exact List.map_congr_left fun x _ => shC_shC a b c d x
def normC : List Cl → List Cl
  | [] => []
  | c :: cs => (c :: cs).map (shC (-c.f0) (-c.f1))
theorem norm_back : ∀ l : List Cl, ∃ a b, l = (normC l).map (shC a b)
  | [] => ⟨0, 0, rfl⟩
  | c :: cs => ⟨c.f0, c.f1, by
    rw [normC, map_shC, show -c.f0 + c.f0 = 0 by omega, show -c.f1 + c.f1 = 0 by omega]
    have : (shC 0 0 : Cl → Cl) = id := funext shC_zero
    rw [this, List.map_id]⟩
def eqC (c d : Cl) : Bool := c.f0 == d.f0 && c.f1 == d.f1
theorem eqC_iff (c d : Cl) : eqC c d = true ↔ c = d := by
  cases c; cases d
  simp [eqC]
def eqCs : List Cl → List Cl → Bool
  | [], [] => true
  | c :: cs, d :: ds => eqC c d && eqCs cs ds
  | _, _ => false
theorem eqCs_eq : ∀ l m : List Cl, eqCs l m = true → l = m
  | [], [], _ => rfl
  | [], _ :: _, h => by simp [eqCs] at h
  | _ :: _, [], h => by simp [eqCs] at h
  | c :: cs, d :: ds, h => by
    simp only [eqCs, Bool.and_eq_true] at h
    rw [(eqC_iff c d).1 h.1, eqCs_eq cs ds h.2]
def shapes : List (List Cl) :=
  [[⟨0, 0⟩],
  [⟨0, 0⟩, ⟨0, 1⟩],
  [⟨0, 0⟩, ⟨1, 0⟩],
  [⟨0, 0⟩, ⟨-1, 1⟩, ⟨0, 1⟩],
  [⟨0, 0⟩, ⟨0, 1⟩, ⟨0, 2⟩],
  [⟨0, 0⟩, ⟨0, 1⟩, ⟨1, 1⟩],
  [⟨0, 0⟩, ⟨1, 0⟩, ⟨0, 1⟩],
  [⟨0, 0⟩, ⟨1, 0⟩, ⟨1, 1⟩],
  [⟨0, 0⟩, ⟨1, 0⟩, ⟨2, 0⟩],
  [⟨0, 0⟩, ⟨-2, 1⟩, ⟨-1, 1⟩, ⟨0, 1⟩],
  [⟨0, 0⟩, ⟨-1, 1⟩, ⟨0, 1⟩, ⟨-1, 2⟩],
  [⟨0, 0⟩, ⟨-1, 1⟩, ⟨0, 1⟩, ⟨0, 2⟩],
  [⟨0, 0⟩, ⟨-1, 1⟩, ⟨0, 1⟩, ⟨1, 1⟩],
  [⟨0, 0⟩, ⟨0, 1⟩, ⟨-1, 2⟩, ⟨0, 2⟩],
  [⟨0, 0⟩, ⟨0, 1⟩, ⟨0, 2⟩, ⟨0, 3⟩],
  [⟨0, 0⟩, ⟨0, 1⟩, ⟨0, 2⟩, ⟨1, 2⟩],
  [⟨0, 0⟩, ⟨0, 1⟩, ⟨1, 1⟩, ⟨0, 2⟩],
  [⟨0, 0⟩, ⟨0, 1⟩, ⟨1, 1⟩, ⟨1, 2⟩],
  [⟨0, 0⟩, ⟨0, 1⟩, ⟨1, 1⟩, ⟨2, 1⟩],
  [⟨0, 0⟩, ⟨1, 0⟩, ⟨-1, 1⟩, ⟨0, 1⟩],
  [⟨0, 0⟩, ⟨1, 0⟩, ⟨0, 1⟩, ⟨0, 2⟩],
  [⟨0, 0⟩, ⟨1, 0⟩, ⟨0, 1⟩, ⟨1, 1⟩],
  [⟨0, 0⟩, ⟨1, 0⟩, ⟨1, 1⟩, ⟨1, 2⟩],
  [⟨0, 0⟩, ⟨1, 0⟩, ⟨1, 1⟩, ⟨2, 1⟩],
  [⟨0, 0⟩, ⟨1, 0⟩, ⟨2, 0⟩, ⟨0, 1⟩],
  [⟨0, 0⟩, ⟨1, 0⟩, ⟨2, 0⟩, ⟨1, 1⟩],
  [⟨0, 0⟩, ⟨1, 0⟩, ⟨2, 0⟩, ⟨2, 1⟩],
  [⟨0, 0⟩, ⟨1, 0⟩, ⟨2, 0⟩, ⟨3, 0⟩]]
def steps4 : List Cl := [⟨1, 0⟩, ⟨-1, 0⟩, ⟨0, 1⟩, ⟨0, -1⟩]
def growB (s : List Cl) : Bool := Nat.ble 4 s.length || s.all fun b => steps4.all fun d => s.any (eqC (shC d.f0 d.f1 b)) || shapes.any (eqCs (normC (insC (shC d.f0 d.f1 b) s)))
theorem grow_all : shapes.all growB = true := by decide +kernel
def Shp (l : List Cl) : Prop := ∃ s ∈ shapes, ∃ a b, l = s.map (shC a b)
theorem shp_step {l m : List Cl} (h : Shp l) (hl : l.length ≤ 3) {b d : Cl} (hb : b ∈ l) (hd : d ∈ steps4) (hx : ∀ c ∈ l, ¬ (c.f0 = b.f0 + d.f0 ∧ c.f1 = b.f1 + d.f1)) (hp : l.Pairwise ltC) (hmp : m.Pairwise ltC) (hmm : ∀ y, y ∈ m ↔ y = shC d.f0 d.f1 b ∨ y ∈ l) : Shp m := by
  obtain ⟨s, hs, p, q, rfl⟩ := h
  have e : m = insC (shC d.f0 d.f1 b) (s.map (shC p q)) := pw_unique _ _ hmp (insC_pw _ _ hp hx) fun y => by rw [hmm, insC_mem]
  obtain ⟨b0, hb0, rfl⟩ := List.mem_map.1 hb
  have e2 : shC d.f0 d.f1 (shC p q b0) = shC p q (shC d.f0 d.f1 b0) := by
    rw [shC_shC, shC_shC, Int.add_comm p, Int.add_comm q]
  rw [e2, insC_sh] at e
  have hg := List.all_eq_true.1 grow_all s hs
  unfold growB at hg
  rw [Bool.or_eq_true] at hg
  rcases hg with hg | hg
  · have := Nat.le_of_ble_eq_true hg
    rw [List.length_map] at hl
    omega
  · have hg2 := List.all_eq_true.1 (List.all_eq_true.1 hg b0 hb0) d hd
    rw [Bool.or_eq_true] at hg2
    rcases hg2 with hg2 | hg2
    · obtain ⟨c, hc, ec⟩ := List.any_eq_true.1 hg2
      have ec := (eqC_iff _ _).1 ec
      subst ec
      refine absurd ?_ (hx (shC p q (shC d.f0 d.f1 b0)) (List.mem_map.2 ⟨_, hc, rfl⟩))
      simp only [shC]
      omega
    · obtain ⟨t, ht, et⟩ := List.any_eq_true.1 hg2
      have et := eqCs_eq _ _ et
      obtain ⟨a1, b1, en⟩ := norm_back (insC (shC d.f0 d.f1 b0) s)
      rw [et] at en
      refine ⟨t, ht, a1 + p, b1 + q, ?_⟩
      rw [e, en, map_shC]

theorem vGo_of : ∀ (l : List Cl) (o : Option Cl), Near0 l → l.Pairwise ltC → (∀ p, o = some p → ∀ c ∈ l, ltC p c) → vGo o l = true
  | [], o, _, _, _ => by cases o <;> rfl
  | c :: cs, o, hn, hp, ho => by
    have hc := hn c (by simp)
    have hp2 := List.pairwise_cons.1 hp
    have ih := vGo_of cs (some c) (fun d hd => hn d (by simp [hd])) hp2.2 (fun p e d hd => by cases e; exact hp2.1 d hd)
    cases o with
    | none => simp only [vGo, decide_eq_true (show 0 ≤ c.f0 ∧ c.f0 ≤ 9 from ⟨hc.1, hc.2.1⟩), decide_eq_true (show 0 ≤ c.f1 ∧ c.f1 ≤ 9 from ⟨hc.2.2.1, hc.2.2.2⟩), ih, Bool.and_self]
    | some p =>
      have h := ho p rfl c (by simp)
      unfold ltC at h
      simp only [vGo, decide_eq_true (show 0 ≤ c.f0 ∧ c.f0 ≤ 9 from ⟨hc.1, hc.2.1⟩), decide_eq_true (show 0 ≤ c.f1 ∧ c.f1 ≤ 9 from ⟨hc.2.2.1, hc.2.2.2⟩), ih, decide_eq_false (show ¬ (c.f1 < p.f1 ∨ c.f1 = p.f1 ∧ c.f0 ≤ p.f0) by omega), Bool.not_false, Bool.and_self]
theorem insert_l0 (x : Cl) : ∀ (n : Nat) (l1 l2 : List Cl), l1.length = n → l1.length + l2.length ≤ 100 → (∀ c ∈ l2, ltC x c) →
    ∃ m1 m2, Ev (fun k => s_l15Insert.l0 k (l1 ++ x :: l2) (l1.length : Int) x.f0 x.f1) (m1 ++ x :: m2) ∧ m1 ++ m2 = l1 ++ l2 ∧ (∀ c ∈ m2, ltC x c) ∧ (∀ q p, m1 = q ++ [p] → ¬ ltC x p)
  | 0, l1, l2, hn, hl, h2 => by
    have : l1 = [] := List.eq_nil_of_length_eq_zero hn
    subst this
    refine ⟨[], l2, ev_up ?_, rfl, h2, fun q p e => by simp at e⟩
    simp only [s_l15Insert.l0, List.length_nil, Int.natCast_zero, if_neg (show ¬ (0 : Int) > 0 by omega)]
    exact Ev.now _
  | n + 1, l1, l2, hn, hl, h2 => by
    rcases nil_or_snoc l1 with rfl | ⟨q, p, rfl⟩
    · simp at hn
    · have hq : q.length = n := by simpa using hn
      have hlen : ((q ++ [p]).length : Int) = (q.length : Int) + 1 := by simp
      simp only [List.length_append, List.length_cons, List.length_nil] at hl
      have hw : wrap64 ((q.length : Int) + 1 - 1) = (q.length : Int) := by rw [pw_wrap (by omega) (by omega)]; omega
      have hall : (((q ++ [p]) ++ x :: l2).length : Int) = (q.length : Int) + l2.length + 2 := by simp; omega
      have hr : rd_T41 ((q ++ [p]) ++ x :: l2) (q.length : Int) = p := by
        rw [List.append_assoc]
        exact rdT_mid q (x :: l2) p
      have hset : (((q ++ [p]) ++ x :: l2).set ((q.length : Int) + 1).toNat p).set ((q.length : Int)).toNat x = q ++ x :: p :: l2 := by
        rw [show ((q.length : Int) + 1).toNat = (q ++ [p]).length from by rw [List.length_append]; simp only [List.length_cons, List.length_nil]; omega, show ((q.length : Int)).toNat = q.length from by omega]
        simp
      have go : ltC x p → ∃ m1 m2, Ev (fun k => s_l15Insert.l0 k (q ++ x :: p :: l2) (q.length : Int) x.f0 x.f1) (m1 ++ x :: m2) ∧ m1 ++ m2 = (q ++ [p]) ++ l2 ∧ (∀ c ∈ m2, ltC x c) ∧ (∀ q p, m1 = q ++ [p] → ¬ ltC x p) := fun hlt => by
        obtain ⟨m1, m2, h, e, a, b⟩ := insert_l0 x n q (p :: l2) hq (by simp; omega) (fun c hc => by
          rcases List.mem_cons.1 hc with rfl | hc
          · exact hlt
          · exact h2 c hc)
        exact ⟨m1, m2, h, by rw [e]; simp, a, b⟩
      have stop : ¬ ltC x p → ∀ q' p', (q ++ [p]) = q' ++ [p'] → ¬ ltC x p' := fun hn q' p' e => by
        have := (List.append_inj' e rfl).2
        simp only [List.cons.injEq, and_true] at this
        rw [← this]
        exact hn
      by_cases h3 : p.f1 > x.f1
      · obtain ⟨m1, m2, h, e, a, b⟩ := go (.inl h3)
        refine ⟨m1, m2, ev_up ?_, e, a, b⟩
        simp only [s_l15Insert.l0, hlen, if_pos (show (q.length : Int) + 1 > 0 by omega), hw, if_pos (Int.natCast_nonneg q.length), hall, if_pos (show (q.length : Int) < (q.length : Int) + l2.length + 2 by omega), hr, if_pos h3, if_pos (show 0 ≤ (q.length : Int) + 1 by omega), if_pos (show (q.length : Int) + 1 < (q.length : Int) + l2.length + 2 by omega)]
        rw [show (⟨p.f0, p.f1⟩ : Cl) = p from rfl, show (⟨x.f0, x.f1⟩ : Cl) = x from rfl, hset]
        exact h
      · by_cases h4 : p.f1 = x.f1
        · by_cases h5 : p.f0 > x.f0
          · obtain ⟨m1, m2, h, e, a, b⟩ := go (.inr ⟨h4.symm, h5⟩)
            refine ⟨m1, m2, ev_up ?_, e, a, b⟩
            simp only [s_l15Insert.l0, hlen, if_pos (show (q.length : Int) + 1 > 0 by omega), hw, if_pos (Int.natCast_nonneg q.length), hall, if_pos (show (q.length : Int) < (q.length : Int) + l2.length + 2 by omega), hr, if_neg h3, if_pos h4, if_pos h5, if_pos (show 0 ≤ (q.length : Int) + 1 by omega), if_pos (show (q.length : Int) + 1 < (q.length : Int) + l2.length + 2 by omega)]
            rw [show (⟨p.f0, p.f1⟩ : Cl) = p from rfl, show (⟨x.f0, x.f1⟩ : Cl) = x from rfl, hset]
            exact h
          · refine ⟨q ++ [p], l2, ev_up ?_, rfl, h2, stop (by unfold ltC; omega)⟩
            simp only [s_l15Insert.l0, hlen, if_pos (show (q.length : Int) + 1 > 0 by omega), hw, if_pos (Int.natCast_nonneg q.length), hall, if_pos (show (q.length : Int) < (q.length : Int) + l2.length + 2 by omega), hr, if_neg h3, if_pos h4, if_neg h5]
            exact Ev.now _
        · refine ⟨q ++ [p], l2, ev_up ?_, rfl, h2, stop (by unfold ltC; omega)⟩
          simp only [s_l15Insert.l0, hlen, if_pos (show (q.length : Int) + 1 > 0 by omega), hw, if_pos (Int.natCast_nonneg q.length), hall, if_pos (show (q.length : Int) < (q.length : Int) + l2.length + 2 by omega), hr, if_neg h3, if_neg h4]
          exact Ev.now _
theorem insert_some {l : List Cl} (hl : l.length ≤ 50) (hp : l.Pairwise ltC) (x : Cl) (hx : ∀ c ∈ l, ¬ (c.f0 = x.f0 ∧ c.f1 = x.f1)) :
    ∃ m, Ev (fun k => s_l15Insert.f k l x.f0 x.f1) m ∧ m.length = l.length + 1 ∧ m.Pairwise ltC ∧ ∀ y, y ∈ m ↔ y = x ∨ y ∈ l := by
  obtain ⟨m1, m2, h, e, a, b⟩ := insert_l0 x l.length l [] rfl (by simp; omega) (fun c hc => by simp at hc)
  rw [List.append_nil] at e
  have hmem : ∀ y, y ∈ m1 ++ x :: m2 ↔ y = x ∨ y ∈ l := fun y => by
    rw [← e]
    simp only [List.mem_append, List.mem_cons]
    constructor
    · rintro (h | h | h)
      · exact .inr (.inl h)
      · exact .inl h
      · exact .inr (.inr h)
    · rintro (h | h | h)
      · exact .inr (.inl h)
      · exact .inl h
      · exact .inr (.inr h)
  refine ⟨m1 ++ x :: m2, ?_, by rw [← e]; simp; omega, ?_, hmem⟩
  · unfold s_l15Insert.f
    simp only [Option.bind_some, List.nil_append, List.length_append, List.length_cons, List.length_nil, Nat.zero_add, if_pos (show l.length < 8796093022208 by omega), if_pos (show l.length + 1 < 8796093022208 by omega), show ((l.length + 1 : Nat) : Int) - 1 = (l.length : Int) from by omega, pw_wrap (a := (l.length : Int)) (by omega) (by omega)]
    exact h
  · rw [← e, List.pairwise_append] at hp
    rw [List.pairwise_append]
    have hlast : ∀ c ∈ m1, ltC c x := by
      intro c hc
      rcases nil_or_snoc m1 with h0 | ⟨q, p, h0⟩
      · rw [h0] at hc; simp at hc
      · have hnp := b q p h0
        have hpl : p ∈ l := by rw [← e, h0]; simp
        have hpx := hx p hpl
        have hp1 : ltC p x := by unfold ltC at hnp ⊢; omega
        rw [h0] at hc
        rcases List.mem_append.1 hc with hc | hc
        · have hpp := hp.1
          rw [h0, List.pairwise_append] at hpp
          have := hpp.2.2 c hc p (by simp)
          unfold ltC at this hp1 ⊢
          omega
        · simp at hc
          rw [hc]
          exact hp1
    refine ⟨hp.1, List.pairwise_cons.2 ⟨a, hp.2.1⟩, fun c hc d hd => ?_⟩
    rcases List.mem_cons.1 hd with rfl | hd
    · exact hlast c hc
    · exact hp.2.2 c hc d hd
def adjC (c d : Cl) : Prop := ((d.f0 = c.f0 + 1 ∨ d.f0 = c.f0 + -1) ∧ d.f1 = c.f1) ∨ (d.f0 = c.f0 ∧ (d.f1 = c.f1 + 1 ∨ d.f1 = c.f1 + -1))
def ConnC (l : List Cl) : Prop := ∀ P : Int → Int → Prop, (∃ c ∈ l, P c.f0 c.f1) → (∀ c ∈ l, ∀ d ∈ l, adjC c d → P c.f0 c.f1 → P d.f0 d.f1) → ∀ c ∈ l, P c.f0 c.f1
theorem conn_ins {l m : List Cl} {x b : Cl} (hm : ∀ y, y ∈ m ↔ y = x ∨ y ∈ l) (h : ConnC l) (hb : b ∈ l) (ha : adjC b x) : ConnC m := by
  intro P hP hcl
  have hbm : b ∈ m := (hm b).2 (.inr hb)
  have hxm : x ∈ m := (hm x).2 (.inl rfl)
  have hax : adjC x b := by unfold adjC at ha ⊢; omega
  have hbase : ∃ c ∈ l, P c.f0 c.f1 := by
    obtain ⟨c, hc, hp⟩ := hP
    rcases (hm c).1 hc with rfl | hc
    · exact ⟨b, hb, hcl c hxm b hbm hax hp⟩
    · exact ⟨c, hc, hp⟩
  have hall := h P hbase (fun c hc d hd => hcl c ((hm c).2 (.inr hc)) d ((hm d).2 (.inr hd)))
  intro c hc
  rcases (hm c).1 hc with rfl | hc
  · exact hcl b hbm c hxm ha (hall b hb)
  · exact hall c hc
theorem at_index {l : List Cl} {c : Cl} (hc : c ∈ l) : ∃ i : Int, 0 ≤ i ∧ i < l.length ∧ rd_T41 l i = c := by
  obtain ⟨j, hj, e⟩ := List.getElem_of_mem hc
  exact ⟨(j : Int), by omega, by omega, by rw [rdT_get l j hj, e]⟩
theorem index_at {l : List Cl} {i : Int} (h0 : 0 ≤ i) (h1 : i < l.length) : rd_T41 l i ∈ l := by
  obtain ⟨n, rfl⟩ := Int.eq_ofNat_of_zero_le h0
  have hn : n < l.length := by omega
  have := rdT_get l n hn
  rw [this]
  exact List.getElem_mem hn
theorem whole_of {l : List Cl} (hn : 1 ≤ l.length) (hv : vGo none l = true) (hc : ConnC l) : whole l (l.length + 1) [0] 0 = true := by
  have hf0 := few_zero (n := l.length) hn
  have hnb : ∀ x : Int, 0 ≤ x → x < (l.length : Int) → ∀ k ∈ nbrs l x, k < (l.length : Int) := fun x _ _ => nbrs_lt l x
  have hfew : Few l.length (bfs (nbrs l) (l.length + 1) [0] 0) := bfs_few (nbrs l) hnb _ _ _ hf0
  have hcl : ∀ x ∈ bfs (nbrs l) (l.length + 1) [0] 0, ∀ k ∈ nbrs l x, 0 ≤ k → k ∈ bfs (nbrs l) (l.length + 1) [0] 0 := bfs_closed (nbrs l) hnb _ _ _ hf0 rfl (fun j hj hji => absurd hji (by omega))
  have h0m : (0 : Int) ∈ bfs (nbrs l) (l.length + 1) [0] 0 := by
    obtain ⟨s, hs⟩ := bfs_pre (nbrs l) (l.length + 1) [0] 0
    rw [hs]
    simp
  generalize hQ : bfs (nbrs l) (l.length + 1) [0] 0 = Q at *
  have hall := hc (fun a b => ∃ q ∈ Q, cx l q = a ∧ cy l q = b) ⟨rd_T41 l 0, index_at (by omega) (by omega), 0, h0m, rfl, rfl⟩ (fun c _ d hd hadj ⟨q, hq, e1, e2⟩ => by
    obtain ⟨j, j0, j1, rfl⟩ := at_index hd
    have hself := cellAt_self hv j0 j1
    refine ⟨j, ?_, rfl, rfl⟩
    refine hcl q hq j ?_ j0
    have e1' : (rd_T41 l q).f0 = c.f0 := e1
    have e2' : (rd_T41 l q).f1 = c.f1 := e2
    simp only [nbrs, List.mem_cons, List.not_mem_nil, or_false]
    rw [e1', e2']
    unfold adjC at hadj
    rcases hadj with ⟨h | h, h2⟩ | ⟨h2, h | h⟩
    · exact .inl (by rw [← h, ← h2]; exact hself.symm)
    · exact .inr (.inl (by rw [← h, ← h2]; exact hself.symm))
    · exact .inr (.inr (.inl (by rw [← h, ← h2]; exact hself.symm)))
    · exact .inr (.inr (.inr (by rw [← h, ← h2]; exact hself.symm))))
  have hin : ∀ i : Int, 0 ≤ i → i < l.length → i ∈ Q := fun i i0 i1 => by
    obtain ⟨q, hq, e1, e2⟩ := hall _ (index_at i0 i1)
    have hb := hfew.2 q hq
    have s1 := cellAt_self hv i0 i1
    have s2 := cellAt_self hv hb.1 hb.2
    have e1' : (rd_T41 l q).f0 = (rd_T41 l i).f0 := e1
    have e2' : (rd_T41 l q).f1 = (rd_T41 l i).f1 := e2
    rw [e1', e2', s1] at s2
    rw [s2]
    exact hq
  have hlen := sub_len (vals (fun x => x) l.length 0) Q (vals_nodup _ _ _ (fun x y _ _ _ _ e => e)) (fun x hx => by
    obtain ⟨y, a, b, e⟩ := (mem_vals _ _ _ _).1 hx
    rw [e]
    exact hin y a (by omega))
  rw [vals_len] at hlen
  have hle := few_len hfew
  unfold whole
  rw [hQ, show Q.length = l.length from by omega]
  simp
theorem cellGo_in (x y : Int) : ∀ (l : List Cl) (s : Int), (∃ c ∈ l, c.f0 = x ∧ c.f1 = y) → s ≤ cellGo x y l s
  | [], s, h => by obtain ⟨c, hc, _⟩ := h; simp at hc
  | c :: cs, s, h => by
    rw [cellGo]
    by_cases hc : c.f0 = x ∧ c.f1 = y
    · rw [if_pos hc]
      exact Int.le_refl _
    · rw [if_neg hc]
      obtain ⟨d, hd, e⟩ := h
      rcases List.mem_cons.1 hd with rfl | hd
      · exact absurd e hc
      · have := cellGo_in x y cs (s + 1) ⟨d, hd, e⟩
        omega
structure TabI (l : List Cl) : Prop where
  n1 : 1 ≤ l.length
  pw : l.Pairwise ltC
  cc : ConnC l
  bd : ∀ c ∈ l, 0 ≤ c.f0 ∧ c.f0 ≤ 3 + l.length ∧ 0 ≤ c.f1 ∧ c.f1 ≤ 3 + l.length
  sh : Shp l
theorem TabI.ok {l : List Cl} (h : TabI l) (hl : l.length ≤ 6) : tableB l = true := by
  have hv := vGo_of l none (fun c hc => by have := h.bd c hc; omega) h.pw (fun p e => by cases e)
  unfold tableB
  rw [decide_eq_true ⟨h.n1, hl⟩, hv, whole_of h.n1 hv h.cc]
  rfl
def dirs : List (List Int) := [[1, 0], [-1, 0], [0, 1], [0, -1]]
theorem draw_l0 (l : List Int) (hl : l.length ≤ 4611686018427387904) : ∀ (n : Nat) (out : List Cl) (s1 s2 : Int), TabI out → out.length + n ≤ 4 → 0 ≤ s1 → ∃ m t1 t2, Ev (fun k => s_l15Draw.l0 k out (n : Int) l s1 s2) (m, t1, t2) ∧ TabI m ∧ m.length ≤ 4
  | 0, out, s1, s2, h, hn, hs => by
    refine ⟨out, s1, s2, ev_up ?_, h, by omega⟩
    simp only [s_l15Draw.l0, if_neg (show ¬ ((0 : Nat) : Int) > 0 by omega)]
    exact Ev.now _
  | n + 1, out, s1, s2, h, hn, hs => by
    have h1 := h.n1
    obtain ⟨v, t1, t2, e1, v0, v1, ht⟩ := below_some l hl s1 s2 hs (out.length : Int) (by omega) (by omega)
    obtain ⟨u, w1, w2, e2, u0, u1, hw⟩ := below_some l hl t1 t2 ht 4 (by omega) (by omega)
    have hb := index_at (l := out) v0 v1
    have hbd := h.bd _ hb
    have ew : wrap64 (((n + 1 : Nat) : Int) - 1) = (n : Int) := by rw [pw_wrap (by omega) (by omega)]; omega
    obtain ⟨dx, dy, ed, hd⟩ : ∃ dx dy : Int, rd_L3 dirs u = [dx, dy] ∧ ((dx = 1 ∨ dx = -1) ∧ dy = 0 ∨ dx = 0 ∧ (dy = 1 ∨ dy = -1)) := by
      have hu : u = 0 ∨ u = 1 ∨ u = 2 ∨ u = 3 := by omega
      rcases hu with rfl | rfl | rfl | rfl
      · exact ⟨1, 0, rfl, by omega⟩
      · exact ⟨-1, 0, rfl, by omega⟩
      · exact ⟨0, 1, rfl, by omega⟩
      · exact ⟨0, -1, rfl, by omega⟩
    have skip : ∃ m t1 t2, Ev (fun k => s_l15Draw.l0 k out (n : Int) l w1 w2) (m, t1, t2) ∧ TabI m ∧ m.length ≤ 4 := draw_l0 l hl n out w1 w2 h (by omega) hw
    have r0 : rd ([dx, dy] : List Int) 0 = dx := rfl
    have r1 : rd ([dx, dy] : List Int) 1 = dy := rfl
    have edir : ([[1, 0], [(-1), 0], [0, 1], [0, (-1)]] : List (List Int)) = dirs := rfl
    have el : ((dirs.length : Nat) : Int) = 4 := rfl
    generalize hB : rd_T41 out v = b at *
    have wx : wrap64 (b.f0 + dx) = b.f0 + dx := pw_wrap (by omega) (by omega)
    have wy : wrap64 (b.f1 + dy) = b.f1 + dy := pw_wrap (by omega) (by omega)
    have hhead : ∀ {r : (List Cl) × Int × Int}, Ev (fun k => (if b.f0 + dx ≥ 0 then (if b.f1 + dy ≥ 0 then ((s_CellAt.f k out (b.f0 + dx) (b.f1 + dy)).bind fun t => (if t < 0 then ((s_l15Insert.f k out (b.f0 + dx) (b.f1 + dy)).bind fun t285 => (s_l15Draw.l0 k t285 (n : Int) l w1 w2)) else (s_l15Draw.l0 k out (n : Int) l w1 w2))) else (s_l15Draw.l0 k out (n : Int) l w1 w2)) else (s_l15Draw.l0 k out (n : Int) l w1 w2))) r → Ev (fun k => s_l15Draw.l0 k out ((n + 1 : Nat) : Int) l s1 s2) r := fun hr => by
      refine ev_up ?_
      simp only [s_l15Draw.l0, if_pos (show ((n + 1 : Nat) : Int) > 0 by omega), e1, Option.bind_some, if_pos v0, if_pos v1, e2, if_pos u0, edir, el, if_pos u1, ed, List.length_cons, List.length_nil, if_pos (show (0 : Int) < ((0 + 1 + 1 : Nat) : Int) by omega), if_pos (show (1 : Int) < ((0 + 1 + 1 : Nat) : Int) by omega), hB, r0, r1, wx, wy, ew]
      exact hr
    by_cases hx : b.f0 + dx ≥ 0
    · by_cases hy : b.f1 + dy ≥ 0
      · by_cases hc : cellAt out (b.f0 + dx) (b.f1 + dy) < 0
        · obtain ⟨m, hm, hml, hmp, hmm⟩ := insert_some (by omega) h.pw (⟨b.f0 + dx, b.f1 + dy⟩ : Cl) (fun c hc2 e => by
            have := cellGo_in (b.f0 + dx) (b.f1 + dy) out 0 ⟨c, hc2, e⟩
            unfold cellAt at hc
            omega)
          have hT : TabI m := by
            refine ⟨by omega, hmp, conn_ins hmm h.cc hb (by unfold adjC; simp only; omega), fun c hc2 => ?_, shp_step h.sh (by omega) (d := ⟨dx, dy⟩) hb (by
              unfold steps4
              rcases hd with ⟨rfl | rfl, rfl⟩ | ⟨rfl, rfl | rfl⟩ <;> simp) (fun c hc2 e => by
              have := cellGo_in (b.f0 + dx) (b.f1 + dy) out 0 ⟨c, hc2, e⟩
              unfold cellAt at hc
              omega) h.pw hmp hmm⟩
            rcases (hmm c).1 hc2 with rfl | hc2
            · simp only
              omega
            · have := h.bd c hc2
              omega
          obtain ⟨q, z1, z2, hr, hq, hql⟩ := draw_l0 l hl n m w1 w2 hT (by omega) hw
          refine ⟨q, z1, z2, hhead ?_, hq, hql⟩
          simp only [if_pos hx, if_pos hy]
          refine Ev.bind (s_CellAt_ev out (by omega) _ _) ?_
          simp only [if_pos hc]
          exact Ev.bind hm hr
        · obtain ⟨q, z1, z2, hr, hq, hql⟩ := skip
          refine ⟨q, z1, z2, hhead ?_, hq, hql⟩
          simp only [if_pos hx, if_pos hy]
          refine Ev.bind (s_CellAt_ev out (by omega) _ _) ?_
          simp only [if_neg hc]
          exact hr
      · obtain ⟨q, z1, z2, hr, hq, hql⟩ := skip
        refine ⟨q, z1, z2, hhead ?_, hq, hql⟩
        simp only [if_pos hx, if_neg hy]
        exact hr
    · obtain ⟨q, z1, z2, hr, hq, hql⟩ := skip
      refine ⟨q, z1, z2, hhead ?_, hq, hql⟩
      simp only [if_neg hx]
      exact hr
theorem table_shape (l : List Int) (hl : l.length ≤ 4611686018427387904) : ∃ m, Ev (fun k => s_MakeTable.f k l) m ∧ tableB m = true ∧ m.length ≤ 4 ∧ Shp m := by
  obtain ⟨h, e⟩ := new_some l hl
  obtain ⟨x, t1, t2, e1, x0, x1, ht⟩ := below_some l hl 0 h (by omega) 3 (by omega) (by omega)
  obtain ⟨y, u1, u2, e2, y0, y1, hu⟩ := below_some l hl t1 t2 ht 3 (by omega) (by omega)
  obtain ⟨v, w1, w2, e3, v0, v1, hw⟩ := below_some l hl u1 u2 hu 4 (by omega) (by omega)
  have hT : TabI [(⟨2 + x, 2 + y⟩ : Cl)] := by
    refine ⟨by simp, List.pairwise_singleton _ _, fun P hP _ c hc => ?_, fun c hc => ?_, ⟨[⟨0, 0⟩], by simp [shapes], 2 + x, 2 + y, by simp [shC]⟩⟩
    · obtain ⟨d, hd, hp⟩ := hP
      simp only [List.mem_singleton] at hc hd
      rw [hc]
      rw [hd] at hp
      exact hp
    · simp only [List.mem_singleton] at hc
      subst hc
      simp only [List.length_singleton]
      omega
  obtain ⟨n, rfl⟩ := Int.eq_ofNat_of_zero_le v0
  obtain ⟨m, z1, z2, hr, hm, hml⟩ := draw_l0 l hl n [(⟨2 + x, 2 + y⟩ : Cl)] w1 w2 hT (by simp; omega) hw
  refine ⟨m, ?_, hm.ok (by omega), hml, hm.sh⟩
  unfold s_MakeTable.f
  refine Ev.bind e ?_
  refine Ev.bind (a := (m, z1, z2)) ?_ (Ev.now _)
  unfold s_l15Draw.f
  simp only [e1, e2, e3, Option.bind_some, pw_wrap (a := 2 + x) (by omega) (by omega), pw_wrap (a := 2 + y) (by omega) (by omega)]
  exact hr
def upSum (g : Int → Int) : Nat → Int → Int
  | 0, _ => 0
  | d + 1, i => g i + upSum g d (i + 1)
def geN (l : List Cl) (i : Int) : Int := ((nbrs l i).filter (fun k => decide (0 ≤ k))).length
def negN (l : List Cl) (i : Int) : Int := ((nbrs l i).filter (fun k => decide (k < 0))).length
theorem ge_neg (l : List Cl) (i : Int) : geN l i + negN l i = 4 ∧ 0 ≤ geN l i ∧ 0 ≤ negN l i := by
  have : ∀ ys : List Int, (ys.filter (fun k => decide (0 ≤ k))).length + (ys.filter (fun k => decide (k < 0))).length = ys.length := by
    intro ys
    induction ys with
    | nil => rfl
    | cons y ys ih =>
      by_cases h : 0 ≤ y
      · have h2 : ¬ y < 0 := by omega
        simp [h, h2]; omega
      · have h2 : y < 0 := by omega
        simp [h, h2]; omega
  have h := this (nbrs l i)
  have h4 : (nbrs l i).length = 4 := rfl
  unfold geN negN
  omega
theorem i_walls_l1 (l : List Cl) (hl : l.length ≤ 6) (i : Int) (hi : 0 ≤ i ∧ i ≤ 6) (ys : List Int) (hy : ys.length ≤ 1000) (r : Int) : ∀ (suf pre : List Int) (acc : Int), ys = pre ++ suf → 0 ≤ acc → acc + suf.length ≤ 1000 →
    Ev (fun k => i_CountWalls.l0 k l (acc + (suf.filter (fun k => decide (k < 0))).length) l (l.length : Int) (i + 1)) r →
    Ev (fun k => i_CountWalls.l1 k l acc l (l.length : Int) i ys (ys.length : Int) (pre.length : Int)) r := by
  intro suf
  induction suf with
  | nil =>
    intro pre acc h _ _ hr
    subst h
    refine ev_up ?_
    simp only [i_CountWalls.l1, if_neg (nlt_end pre), pw_wrap (a := i + 1) (by omega) (by omega)]
    simpa using hr
  | cons c suf ih =>
    intro pre acc h h0 h1 hr
    have hi' := fun acc' => ih (pre ++ [c]) acc' (by simp [h])
    subst h
    refine ev_up ?_
    simp only [i_CountWalls.l1, if_pos (lt_mid pre suf c), if_pos (Int.natCast_nonneg pre.length), rd_mid, wrap_snoc (x := c) (s := suf) (p := pre) (by simp at hy ⊢; omega)]
    simp at h1
    by_cases hc : c < 0
    · simp only [if_pos hc, pw_wrap (a := acc + 1) (by omega) (by omega)]
      refine hi' (acc + 1) (by omega) (by omega) ?_
      rw [show acc + 1 + ((suf.filter (fun k => decide (k < 0))).length : Int) = acc + (((c :: suf).filter (fun k => decide (k < 0))).length : Int) by simp [hc]; omega]
      exact hr
    · simp only [if_neg hc]
      refine hi' acc (by omega) (by omega) ?_
      rw [show (c :: suf).filter (fun k => decide (k < 0)) = suf.filter (fun k => decide (k < 0)) by simp [hc]] at hr
      exact hr
theorem i_walls_l0 (l : List Cl) (hl : l.length ≤ 6) (hv : Near0 l) : ∀ (d : Nat) (acc i : Int), 0 ≤ i → i + d = l.length → 0 ≤ acc → acc + 4 * d ≤ 100 →
    Ev (fun k => i_CountWalls.l0 k l acc l (l.length : Int) i) (acc + upSum (negN l) d i) := by
  intro d
  induction d with
  | zero =>
    intro acc i h0 h1 _ _
    refine ev_up ?_
    simp only [i_CountWalls.l0, if_neg (show ¬ i < (l.length : Int) by omega), upSum, Int.add_zero]
    exact Ev.now _
  | succ d ih =>
    intro acc i h0 h1 h2 h3
    have hg := ge_neg l i
    have hr := near_rd hv h0 (show i < l.length by omega)
    have hn : (nbrs l i).length = 4 := rfl
    have := ih (acc + negN l i) (i + 1) (by omega) (by omega) (by omega) (by omega)
    have := i_walls_l1 l hl i (by omega) (nbrs l i) (by omega) _ (nbrs l i) [] acc rfl (by omega) (by omega) this
    rw [upSum, ← Int.add_assoc]
    refine ev_up ?_
    unfold nbrs at this
    generalize hc : rd_T41 l i = c at *
    simp only [i_CountWalls.l0, if_pos (show i < (l.length : Int) by omega), if_pos h0, hc,
      pw_wrap (a := c.f0 + 1) (by omega) (by omega), pw_wrap (a := c.f0 - 1) (by omega) (by omega), pw_wrap (a := c.f1 + 1) (by omega) (by omega), pw_wrap (a := c.f1 - 1) (by omega) (by omega)]
    refine Ev.bind (i_CellAt_ev l (by omega) _ _) ?_
    refine Ev.bind (i_CellAt_ev l (by omega) _ _) ?_
    refine Ev.bind (i_CellAt_ev l (by omega) _ _) ?_
    refine Ev.bind (i_CellAt_ev l (by omega) _ _) ?_
    simp only [Option.bind_some]
    exact this
def wallsOf (l : List Cl) : Int := if tableB l = true then upSum (negN l) l.length 0 else -1
theorem i_walls (l : List Cl) : Ev (fun k => i_CountWalls.f k l) (wallsOf l) := by
  unfold i_CountWalls.f wallsOf
  refine Ev.bind (i_table l) ?_
  by_cases h : tableB l = true
  · obtain ⟨h1, h2, _, _⟩ := tableB_side h
    simp only [if_pos h]
    have := i_walls_l0 l h1.2 h2 l.length 0 0 (by omega) (by omega) (by omega) (by omega)
    rw [Int.zero_add] at this
    exact this
  · simp only [if_neg h]
    exact Ev.now _

def atC (c : Cl) (x y : Int) : Bool := decide ((c.f0 = x ∨ c.f0 + 1 = x) ∧ (c.f1 = y ∨ c.f1 + 1 = y))
def cntL (x y : Int) : List Cl → Int
  | [] => 0
  | c :: cs => (if atC c x y = true then 1 else 0) + cntL x y cs
theorem cntL_bd (x y : Int) : ∀ l : List Cl, 0 ≤ cntL x y l ∧ cntL x y l ≤ l.length
  | [] => by simp [cntL]
  | c :: cs => by have := cntL_bd x y cs; simp only [cntL, List.length_cons]; split <;> omega
def angX (l : List Cl) (y : Int) : Nat → Int → List Int → List Int
  | 0, _, acc => acc
  | d + 1, x, acc => angX l y d (x + 1) (if cntL x y l > 0 then acc ++ [cntL x y l] else acc)
def angY (l : List Cl) : Nat → Int → List Int → List Int
  | 0, _, acc => acc
  | d + 1, y, acc => angY l d (y + 1) (angX l y 11 0 acc)
theorem angX_len (l : List Cl) (y : Int) : ∀ (d : Nat) (x : Int) (acc : List Int), (angX l y d x acc).length ≤ acc.length + d
  | 0, _, acc => by simp [angX]
  | d + 1, x, acc => by
    rw [angX]
    have := angX_len l y d (x + 1) (if cntL x y l > 0 then acc ++ [cntL x y l] else acc)
    split at this
    · rename_i h; rw [if_pos h]; simp at this; omega
    · rename_i h; rw [if_neg h]; omega
theorem angY_len (l : List Cl) : ∀ (d : Nat) (y : Int) (acc : List Int), (angY l d y acc).length ≤ acc.length + 11 * d
  | 0, _, acc => by simp [angY]
  | d + 1, y, acc => by
    rw [angY]
    have h1 := angY_len l d (y + 1) (angX l y 11 0 acc)
    have h2 := angX_len l y 11 0 acc
    omega
theorem i_ang_l2 (l : List Cl) (hl : l.length ≤ 6) (hv : Near0 l) (out : List Int) (ho : out.length ≤ 1000) (x y : Int) (hx : 0 ≤ x ∧ x ≤ 10) (hy : 0 ≤ y ∧ y ≤ 10) (r : List Int) : ∀ (suf pre : List Cl) (n : Int), l = pre ++ suf → 0 ≤ n → n + suf.length ≤ 6 →
    Ev (fun k => i_AnglesAt.l1 k l (if n + cntL x y suf > 0 then out ++ [n + cntL x y suf] else out) y (x + 1)) r →
    Ev (fun k => i_AnglesAt.l2 k l out y x n l (l.length : Int) (pre.length : Int)) r := by
  intro suf
  induction suf with
  | nil =>
    intro pre n h h0 h1 hr
    have hlen : ¬ ((pre.length : Nat) : Int) < (l.length : Int) := by rw [h]; simp
    refine ev_up ?_
    simp only [i_AnglesAt.l2, if_neg hlen, pw_wrap (a := x + 1) (by omega) (by omega)]
    simp only [cntL, Int.add_zero] at hr
    by_cases hn : n > 0
    · simp only [if_pos hn, if_pos (show out.length < 17592186044416 by omega)] at hr ⊢
      exact hr
    · simp only [if_neg hn] at hr ⊢
      exact hr
  | cons c suf ih =>
    intro pre n h h0 h1 hr
    have hi := fun n' => ih (pre ++ [c]) n' (by simp [h])
    have hlt : ((pre.length : Nat) : Int) < (l.length : Int) := by rw [h]; exact lt_mid pre suf c
    have hrd : rd_T41 l (pre.length : Int) = c := by rw [h]; exact rdT_mid pre suf c
    have hw : wrap64 ((pre.length : Int) + 1) = ((pre ++ [c]).length : Int) := wrap_snoc (s := suf) (by rw [← h]; omega)
    have hc := hv c (by rw [h]; simp)
    simp at h1
    refine ev_up ?_
    simp only [i_AnglesAt.l2, if_pos hlt, if_pos (Int.natCast_nonneg pre.length), hrd, hw, pw_wrap (a := c.f0 + 1) (by omega) (by omega), pw_wrap (a := c.f1 + 1) (by omega) (by omega), pw_wrap (a := n + 1) (by omega) (by omega)]
    by_cases hat : atC c x y = true
    · have h2 := of_decide_eq_true hat
      have hr' := hi (n + 1) (by omega) (by omega) (by
        rw [cntL, if_pos hat] at hr
        rw [show n + 1 + cntL x y suf = n + (1 + cntL x y suf) by omega]
        exact hr)
      by_cases hx0 : c.f0 = x
      · by_cases hy0 : c.f1 = y
        · simp only [if_pos hx0, if_pos hy0]; exact hr'
        · simp only [if_pos hx0, if_neg hy0, if_pos (show c.f1 + 1 = y by omega)]; exact hr'
      · by_cases hy0 : c.f1 = y
        · simp only [if_neg hx0, if_pos (show c.f0 + 1 = x by omega), if_pos hy0]; exact hr'
        · simp only [if_neg hx0, if_pos (show c.f0 + 1 = x by omega), if_neg hy0, if_pos (show c.f1 + 1 = y by omega)]; exact hr'
    · have h2 : ¬ ((c.f0 = x ∨ c.f0 + 1 = x) ∧ (c.f1 = y ∨ c.f1 + 1 = y)) := fun h => hat (decide_eq_true h)
      have hr' := hi n (by omega) (by omega) (by
        rw [cntL, if_neg hat, Int.zero_add] at hr
        exact hr)
      by_cases hx0 : c.f0 = x
      · simp only [if_pos hx0, if_neg (show ¬ c.f1 = y by omega), if_neg (show ¬ c.f1 + 1 = y by omega)]; exact hr'
      · by_cases hx1 : c.f0 + 1 = x
        · simp only [if_neg hx0, if_pos hx1, if_neg (show ¬ c.f1 = y by omega), if_neg (show ¬ c.f1 + 1 = y by omega)]; exact hr'
        · simp only [if_neg hx0, if_neg hx1]; exact hr'
def anglesOf (l : List Cl) : List Int := if tableB l = true then angY l 11 0 [] else []
theorem anglesOf_len (l : List Cl) : (anglesOf l).length ≤ 121 := by
  unfold anglesOf
  split
  · have := angY_len l 11 0 []; simpa using this
  · simp
theorem i_ang_l1 (l : List Cl) (hl : l.length ≤ 6) (hv : Near0 l) (y : Int) (hy : 0 ≤ y ∧ y ≤ 10) (r : List Int) : ∀ (d : Nat) (x : Int) (out : List Int), 0 ≤ x → x + d = 11 → out.length + d ≤ 1000 →
    Ev (fun k => i_AnglesAt.l0 k l (angX l y d x out) (y + 1)) r → Ev (fun k => i_AnglesAt.l1 k l out y x) r := by
  intro d
  induction d with
  | zero =>
    intro x out h0 h1 h2 hr
    refine ev_up ?_
    simp only [i_AnglesAt.l1, if_neg (show ¬ x ≤ 10 by omega), pw_wrap (a := y + 1) (by omega) (by omega)]
    exact hr
  | succ d ih =>
    intro x out h0 h1 h2 hr
    refine ev_up ?_
    simp only [i_AnglesAt.l1, if_pos (show x ≤ 10 by omega)]
    refine i_ang_l2 l hl hv out (by omega) x y (by omega) hy r l [] 0 rfl (by omega) (by omega) ?_
    rw [Int.zero_add]
    rw [angX] at hr
    refine ih (x + 1) _ (by omega) (by omega) ?_ hr
    split
    · simp; omega
    · omega
theorem i_ang_l0 (l : List Cl) (hl : l.length ≤ 6) (hv : Near0 l) : ∀ (d : Nat) (y : Int) (out : List Int), 0 ≤ y → y + d = 11 → out.length + 11 * d ≤ 900 →
    Ev (fun k => i_AnglesAt.l0 k l out y) (angY l d y out) := by
  intro d
  induction d with
  | zero =>
    intro y out h0 h1 h2
    refine ev_up ?_
    simp only [i_AnglesAt.l0, if_neg (show ¬ y ≤ 10 by omega)]
    exact Ev.now _
  | succ d ih =>
    intro y out h0 h1 h2
    have := angX_len l y 11 0 out
    refine ev_up ?_
    simp only [i_AnglesAt.l0, if_pos (show y ≤ 10 by omega)]
    rw [angY]
    exact i_ang_l1 l hl hv y (by omega) _ 11 0 out (by omega) (by omega) (by omega) (ih (y + 1) _ (by omega) (by omega) (by omega))
theorem i_angles (l : List Cl) : Ev (fun k => i_AnglesAt.f k l) (anglesOf l) := by
  unfold i_AnglesAt.f anglesOf
  refine Ev.bind (i_table l) ?_
  by_cases h : tableB l = true
  · obtain ⟨h1, h2, _, _⟩ := tableB_side h
    simp only [if_pos h]
    exact i_ang_l0 l h1.2 h2 11 0 [] (by omega) (by omega) (by simp)
  · simp only [if_neg h]
    exact Ev.now _

theorem cellGo_sh (a b x y : Int) : ∀ (l : List Cl) (s : Int), cellGo (x + a) (y + b) (l.map (shC a b)) s = cellGo x y l s
  | [], _ => rfl
  | c :: cs, s => by
    rw [List.map_cons, cellGo, cellGo, cellGo_sh a b x y cs]
    by_cases h : c.f0 = x ∧ c.f1 = y
    · rw [if_pos h, if_pos (by simp only [shC]; omega)]
    · rw [if_neg h, if_neg (by simp only [shC]; omega)]
theorem cellAt_sh (a b x y : Int) (l : List Cl) : cellAt (l.map (shC a b)) (x + a) (y + b) = cellAt l x y := cellGo_sh a b x y l 0
theorem rdC_sh (a b : Int) (l : List Cl) {i : Int} (i0 : 0 ≤ i) (i1 : i < l.length) : rd_T41 (l.map (shC a b)) i = shC a b (rd_T41 l i) := by
  have h1 : i.toNat < l.length := by omega
  simp [rd_T41, List.getD, h1]
theorem gR_sh (a b : Int) (l : List Cl) {x : Int} (x0 : 0 ≤ x) (x1 : x < 4 * l.length) : gR (l.map (shC a b)) x = gR l x := by
  have e : ∀ d : Int, cellAt (l.map (shC a b)) ((rd_T41 l (x / 4)).f0 + a + d) ((rd_T41 l (x / 4)).f1 + b) = cellAt l ((rd_T41 l (x / 4)).f0 + d) (rd_T41 l (x / 4)).f1 := fun d => by
    have h := cellAt_sh a b ((rd_T41 l (x / 4)).f0 + d) (rd_T41 l (x / 4)).f1 l
    rw [Int.add_right_comm] at h
    exact h
  unfold gR
  rw [rdC_sh a b l (by omega) (by omega)]
  simp only [shC, e]
theorem gU_sh (a b : Int) (l : List Cl) {x : Int} (x0 : 0 ≤ x) (x1 : x < 4 * l.length) : gU (l.map (shC a b)) x = gU l x := by
  have e : ∀ d : Int, cellAt (l.map (shC a b)) ((rd_T41 l (x / 4)).f0 + a) ((rd_T41 l (x / 4)).f1 + b + d) = cellAt l (rd_T41 l (x / 4)).f0 ((rd_T41 l (x / 4)).f1 + d) := fun d => by
    have h := cellAt_sh a b (rd_T41 l (x / 4)).f0 ((rd_T41 l (x / 4)).f1 + d) l
    rw [Int.add_right_comm] at h
    exact h
  unfold gU
  rw [rdC_sh a b l (by omega) (by omega)]
  simp only [shC, e]
theorem vals_congr (f g : Int → Int) : ∀ (d : Nat) (x : Int), (∀ z, x ≤ z → z < x + d → f z = g z) → vals f d x = vals g d x
  | 0, _, _ => rfl
  | d + 1, x, h => by
    rw [vals, vals, h x (by omega) (by omega), vals_congr f g d (x + 1) fun z z0 z1 => h z (by omega) (by omega)]
theorem unfR_sh (a b : Int) (l : List Cl) : unfR (l.map (shC a b)) = unfR l := by
  unfold unfR
  rw [List.length_map]
  exact vals_congr _ _ _ _ fun z z0 z1 => gR_sh a b l (by omega) (by omega)
theorem unfU_sh (a b : Int) (l : List Cl) : unfU (l.map (shC a b)) = unfU l := by
  unfold unfU
  rw [List.length_map]
  exact vals_congr _ _ _ _ fun z z0 z1 => gU_sh a b l (by omega) (by omega)
theorem negN_sh (a b : Int) (l : List Cl) {i : Int} (i0 : 0 ≤ i) (i1 : i < l.length) : negN (l.map (shC a b)) i = negN l i := by
  unfold negN nbrs
  rw [rdC_sh a b l i0 i1]
  have e1 : ∀ d : Int, cellAt (l.map (shC a b)) ((rd_T41 l i).f0 + a + d) ((rd_T41 l i).f1 + b) = cellAt l ((rd_T41 l i).f0 + d) (rd_T41 l i).f1 := fun d => by
    have h := cellAt_sh a b ((rd_T41 l i).f0 + d) (rd_T41 l i).f1 l
    rw [Int.add_right_comm] at h
    exact h
  have e2 : ∀ d : Int, cellAt (l.map (shC a b)) ((rd_T41 l i).f0 + a) ((rd_T41 l i).f1 + b + d) = cellAt l (rd_T41 l i).f0 ((rd_T41 l i).f1 + d) := fun d => by
    have h := cellAt_sh a b (rd_T41 l i).f0 ((rd_T41 l i).f1 + d) l
    rw [Int.add_right_comm] at h
    exact h
  simp only [shC, e1, e2]
theorem upSum_congr (f g : Int → Int) : ∀ (d : Nat) (x : Int), (∀ z, x ≤ z → z < x + d → f z = g z) → upSum f d x = upSum g d x
  | 0, _, _ => rfl
  | d + 1, x, h => by
    rw [upSum, upSum, h x (by omega) (by omega), upSum_congr f g d (x + 1) fun z z0 z1 => h z (by omega) (by omega)]
theorem walls_sh (a b : Int) (l : List Cl) : upSum (negN (l.map (shC a b))) l.length 0 = upSum (negN l) l.length 0 := upSum_congr _ _ _ _ fun z z0 z1 => negN_sh a b l (by omega) (by omega)
def gridX (y : Int) : Nat → Int → List (Int × Int)
  | 0, _ => []
  | d + 1, x => (x, y) :: gridX y d (x + 1)
def gridY : Nat → Int → List (Int × Int)
  | 0, _ => []
  | d + 1, y => gridX y 11 0 ++ gridY d (y + 1)
def cntP (l : List Cl) (p : Int × Int) : Int := cntL p.1 p.2 l
def hits (l : List Cl) (ps : List (Int × Int)) : List Int := (ps.filter fun p => decide (cntP l p > 0)).map (cntP l)
theorem angX_hits (l : List Cl) (y : Int) : ∀ (d : Nat) (x : Int) (acc : List Int), angX l y d x acc = acc ++ hits l (gridX y d x)
  | 0, _, acc => by simp [angX, hits, gridX]
  | d + 1, x, acc => by
    rw [angX, angX_hits l y d, gridX]
    by_cases h : cntL x y l > 0
    · have e : hits l ((x, y) :: gridX y d (x + 1)) = cntL x y l :: hits l (gridX y d (x + 1)) := by
        unfold hits
        rw [List.filter_cons_of_pos (by simpa [cntP] using h)]
        rfl
      rw [if_pos h, e]
      simp
    · have e : hits l ((x, y) :: gridX y d (x + 1)) = hits l (gridX y d (x + 1)) := by
        unfold hits
        rw [List.filter_cons_of_neg (by simpa [cntP] using h)]
      rw [if_neg h, e]
theorem hits_append (l : List Cl) (p q : List (Int × Int)) : hits l (p ++ q) = hits l p ++ hits l q := by
  unfold hits
  rw [List.filter_append, List.map_append]
theorem angY_hits (l : List Cl) : ∀ (d : Nat) (y : Int) (acc : List Int), angY l d y acc = acc ++ hits l (gridY d y)
  | 0, _, acc => by simp [angY, hits, gridY]
  | d + 1, y, acc => by
    rw [angY, angY_hits l d, gridY, angX_hits, hits_append, List.append_assoc]
theorem mem_gridX (y : Int) (p : Int × Int) : ∀ (d : Nat) (x : Int), p ∈ gridX y d x ↔ p.2 = y ∧ x ≤ p.1 ∧ p.1 < x + d
  | 0, x => by
    simp only [gridX, List.not_mem_nil, false_iff]
    omega
  | d + 1, x => by
    rw [gridX, List.mem_cons, mem_gridX y p d (x + 1)]
    constructor
    · rintro (rfl | h)
      · exact ⟨rfl, Int.le_refl _, by show x < x + ((d + 1 : Nat) : Int); omega⟩
      · omega
    · intro h
      by_cases e : p.1 = x
      · exact .inl (Prod.ext e h.1)
      · exact .inr (by omega)
theorem mem_gridY (p : Int × Int) : ∀ (d : Nat) (y : Int), p ∈ gridY d y ↔ (0 ≤ p.1 ∧ p.1 < 11) ∧ y ≤ p.2 ∧ p.2 < y + d
  | 0, y => by
    simp only [gridY, List.not_mem_nil, false_iff]
    omega
  | d + 1, y => by
    rw [gridY, List.mem_append, mem_gridX, mem_gridY p d (y + 1)]
    omega
theorem gridX_nodup (y : Int) : ∀ (d : Nat) (x : Int), (gridX y d x).Nodup
  | 0, _ => List.nodup_nil
  | d + 1, x => by
    rw [gridX, List.nodup_cons]
    refine ⟨fun h => ?_, gridX_nodup y d (x + 1)⟩
    rw [mem_gridX] at h
    simp only at h
    omega
theorem gridY_nodup : ∀ (d : Nat) (y : Int), (gridY d y).Nodup
  | 0, _ => List.nodup_nil
  | d + 1, y => by
    rw [gridY, List.nodup_append]
    refine ⟨gridX_nodup y 11 0, gridY_nodup d (y + 1), fun p hp q hq e => ?_⟩
    subst e
    rw [mem_gridX] at hp
    rw [mem_gridY] at hq
    omega
def corns (c : Cl) : List (Int × Int) := [(c.f0, c.f1), (c.f0 + 1, c.f1), (c.f0, c.f1 + 1), (c.f0 + 1, c.f1 + 1)]
theorem corns_iff (c : Cl) (p : Int × Int) : p ∈ corns c ↔ atC c p.1 p.2 = true := by
  obtain ⟨x, y⟩ := p
  simp only [corns, atC, List.mem_cons, List.not_mem_nil, or_false, Prod.mk.injEq, decide_eq_true_eq]
  omega
def addP (ps : List (Int × Int)) (p : Int × Int) : List (Int × Int) := if p ∈ ps then ps else ps ++ [p]
def ptsOf (l : List Cl) : List (Int × Int) := (l.flatMap corns).foldl addP []
theorem addP_facts : ∀ (qs ps : List (Int × Int)), ps.Nodup → (qs.foldl addP ps).Nodup ∧ ∀ p, p ∈ qs.foldl addP ps ↔ p ∈ ps ∨ p ∈ qs
  | [], ps, h => ⟨h, fun p => by simp⟩
  | q :: qs, ps, h => by
    have h2 : (addP ps q).Nodup ∧ ∀ p, p ∈ addP ps q ↔ p ∈ ps ∨ p = q := by
      unfold addP
      split
      · rename_i hq
        refine ⟨h, fun p => ⟨.inl, fun hp => ?_⟩⟩
        rcases hp with hp | rfl
        · exact hp
        · exact hq
      · rename_i hq
        refine ⟨?_, fun p => by simp⟩
        rw [List.nodup_append]
        refine ⟨h, by simp, fun a ha b hb e => ?_⟩
        rw [List.mem_singleton] at hb
        subst e hb
        exact hq ha
    have ih := addP_facts qs (addP ps q) h2.1
    refine ⟨ih.1, fun p => ?_⟩
    rw [List.foldl_cons, ih.2 p, h2.2 p, List.mem_cons]
    constructor
    · rintro ((a | a) | a)
      · exact .inl a
      · exact .inr (.inl a)
      · exact .inr (.inr a)
    · rintro (a | a | a)
      · exact .inl (.inl a)
      · exact .inl (.inr a)
      · exact .inr a
theorem cntL_pos (x y : Int) : ∀ l : List Cl, cntL x y l > 0 ↔ ∃ c ∈ l, atC c x y = true
  | [] => by simp [cntL]
  | c :: cs => by
    have h := cntL_bd x y cs
    have ih := cntL_pos x y cs
    rw [cntL]
    by_cases hc : atC c x y = true
    · rw [if_pos hc]
      exact ⟨fun _ => ⟨c, by simp, hc⟩, fun _ => by omega⟩
    · rw [if_neg hc, Int.zero_add, ih]
      constructor
      · rintro ⟨d, hd, e⟩
        exact ⟨d, by simp [hd], e⟩
      · rintro ⟨d, hd, e⟩
        rcases List.mem_cons.1 hd with rfl | hd
        · exact absurd e hc
        · exact ⟨d, hd, e⟩
theorem pts_mem (l : List Cl) (p : Int × Int) : p ∈ ptsOf l ↔ cntP l p > 0 := by
  unfold ptsOf cntP
  rw [(addP_facts _ _ List.nodup_nil).2, cntL_pos]
  simp only [List.not_mem_nil, false_or, List.mem_flatMap, corns_iff]
theorem cntL_sh (a b x y : Int) : ∀ l : List Cl, cntL (x + a) (y + b) (l.map (shC a b)) = cntL x y l
  | [] => rfl
  | c :: cs => by
    have e : atC (shC a b c) (x + a) (y + b) = atC c x y := by
      unfold atC
      rw [decide_eq_decide]
      simp only [shC]
      omega
    rw [List.map_cons, cntL, cntL, e, cntL_sh a b x y cs]
def angP (l : List Cl) : List Int := (ptsOf l).map (cntP l)
theorem ang_perm (a b : Int) (s : List Cl) (hn : Near0 (s.map (shC a b))) : (angY (s.map (shC a b)) 11 0 []).Perm (angP s) := by
  rw [angY_hits, List.nil_append]
  unfold hits angP
  have hq : ((ptsOf s).map fun p => (p.1 + a, p.2 + b)).Nodup := by
    refine List.pairwise_map.2 ((addP_facts _ _ List.nodup_nil).1.imp fun {p q} hne e => hne ?_)
    simp only [Prod.mk.injEq] at e
    exact Prod.ext (by omega) (by omega)
  have hp : ((gridY 11 0).filter fun p => decide (cntP (s.map (shC a b)) p > 0)).Perm ((ptsOf s).map fun p => (p.1 + a, p.2 + b)) := by
    rw [List.perm_ext_iff_of_nodup ((gridY_nodup 11 0).filter _) hq]
    intro p
    have ec : cntP (s.map (shC a b)) p = cntP s (p.1 - a, p.2 - b) := by
      have h := cntL_sh a b (p.1 - a) (p.2 - b) s
      rw [Int.sub_add_cancel, Int.sub_add_cancel] at h
      exact h
    rw [List.mem_filter, mem_gridY, List.mem_map, ec, decide_eq_true_eq]
    constructor
    · rintro ⟨_, h⟩
      exact ⟨_, (pts_mem s _).2 h, Prod.ext (by simp) (by simp)⟩
    · rintro ⟨q, hq, rfl⟩
      have h := (pts_mem s q).1 hq
      have e2 : ((q.1 + a, q.2 + b).1 - a, (q.1 + a, q.2 + b).2 - b) = q := Prod.ext (by simp) (by simp)
      rw [e2]
      refine ⟨?_, h⟩
      obtain ⟨c, hc, e⟩ := (cntL_pos q.1 q.2 s).1 h
      have hb := hn (shC a b c) (List.mem_map.2 ⟨c, hc, rfl⟩)
      unfold atC at e
      rw [decide_eq_true_eq] at e
      simp only [shC] at hb ⊢
      omega
  refine (hp.map _).trans ?_
  rw [List.map_map]
  refine List.Perm.of_eq (List.map_congr_left fun p _ => ?_)
  exact cntL_sh a b p.1 p.2 s

def sortD (l : List Int) : List Int := l.mergeSort fun x y => decide (y ≤ x)
theorem sortD_perm (l : List Int) : (sortD l).Perm l := List.mergeSort_perm _ _
def walkC (p : List Int) : Nat → List Int → List Int → Int → List Int × List Int
  | 0, q, c, _ => (q, c)
  | f + 1, q, c, x => if x ∈ q then (q, c) else walkC p f (q ++ [x]) (c ++ [x]) (rd p x)
def walkOf (p q : List Int) (i : Int) : List Int × List Int := walkC p (p.length + 1 - q.length) q [] i
def cycGo (p : List Int) : Nat → Int → List Int → List (List Int) → List (List Int)
  | 0, _, _, out => out
  | d + 1, i, q, out => cycGo p d (i + 1) (walkOf p q i).1 (if i ∈ q then out else out ++ [(walkOf p q i).2])
def cyclesOf (p : List Int) : List (List Int) := if permB p = true then cycGo p p.length 0 [] [] else []
theorem few_full {n : Nat} {q : List Int} (h : Few n q) (hl : q.length = n) {x : Int} (h0 : 0 ≤ x) (h1 : x < n) : x ∈ q := by
  refine Classical.byContradiction fun hm => ?_
  have hf := few_push h h1
  have := few_len hf
  unfold push at this
  rw [if_pos ⟨h0, hm⟩] at this
  simp at this
  omega
theorem few_snoc {n : Nat} {q : List Int} (h : Few n q) {x : Int} (h0 : 0 ≤ x) (h1 : x < n) (hm : x ∉ q) : Few n (q ++ [x]) := by
  have hf := few_push h h1
  unfold push at hf
  rw [if_pos ⟨h0, hm⟩] at hf
  exact hf
theorem walkC_bd {p : List Int} (hp : isPerm p) : ∀ (f : Nat) (q c : List Int) (x : Int), Few p.length q → c.length ≤ q.length → (∀ y ∈ c, 0 ≤ y ∧ y < (p.length : Int)) → 0 ≤ x → x < p.length →
    Few p.length (walkC p f q c x).1 ∧ (walkC p f q c x).2.length ≤ (walkC p f q c x).1.length ∧ (∀ y ∈ (walkC p f q c x).2, 0 ≤ y ∧ y < (p.length : Int)) ∧ c.length ≤ (walkC p f q c x).2.length
  | 0, q, c, x, hq, hc, hv, h0, h1 => ⟨hq, hc, hv, Nat.le_refl _⟩
  | f + 1, q, c, x, hq, hc, hv, h0, h1 => by
    rw [walkC]
    by_cases hm : x ∈ q
    · rw [if_pos hm]
      exact ⟨hq, hc, hv, Nat.le_refl _⟩
    · rw [if_neg hm]
      have hx := perm_rd hp h0 h1
      have := walkC_bd hp f (q ++ [x]) (c ++ [x]) (rd p x) (few_snoc hq h0 h1 hm) (by simp; omega) (fun y hy => by
        rcases List.mem_append.1 hy with hy | hy
        · exact hv y hy
        · simp at hy; subst hy; exact ⟨h0, h1⟩) hx.1 hx.2
      refine ⟨this.1, this.2.1, this.2.2.1, ?_⟩
      have := this.2.2.2
      simp at this
      omega
def GoodC (c : List Int) : Prop := (∀ y ∈ c, 0 ≤ y ∧ y < 24) ∧ c.length ≤ 24
theorem walkOf_bd {p q : List Int} (hp : isPerm p) (hq : Few p.length q) {i : Int} (h0 : 0 ≤ i) (h1 : i < p.length) : Few p.length (walkOf p q i).1 ∧ GoodC (walkOf p q i).2 := by
  have h := walkC_bd hp (p.length + 1 - q.length) q [] i hq (by simp) (by simp) h0 h1
  have hn := hp.1
  have hl := few_len h.1
  refine ⟨h.1, fun y hy => ?_, ?_⟩
  · have := h.2.2.1 y hy
    omega
  · have h2 := h.2.1
    have e : (walkC p (p.length + 1 - q.length) q [] i) = walkOf p q i := rfl
    rw [e] at h2 hl
    omega
theorem walkOf_in {p q : List Int} (hq : Few p.length q) {i : Int} (hm : i ∈ q) : walkOf p q i = (q, []) := by
  unfold walkOf
  have hl := few_len hq
  obtain ⟨f, hf⟩ : ∃ f, p.length + 1 - q.length = f + 1 := ⟨p.length - q.length, by omega⟩
  rw [hf, walkC, if_pos hm]
theorem cycGo_bd {p : List Int} (hp : isPerm p) : ∀ (d : Nat) (i : Int) (q : List Int) (out : List (List Int)), 0 ≤ i → i + d = p.length → Few p.length q → (∀ c ∈ out, GoodC c) →
    (∀ c ∈ cycGo p d i q out, GoodC c) ∧ (cycGo p d i q out).length ≤ out.length + d
  | 0, _, _, out, _, _, _, ho => ⟨ho, Nat.le_refl _⟩
  | d + 1, i, q, out, h0, hi, hq, ho => by
    have hw := walkOf_bd hp hq h0 (show i < p.length by omega)
    simp only [cycGo]
    by_cases hm : i ∈ q
    · rw [if_pos hm]
      have := cycGo_bd hp d (i + 1) (walkOf p q i).1 out (by omega) (by omega) hw.1 ho
      exact ⟨this.1, by have := this.2; omega⟩
    · rw [if_neg hm]
      have := cycGo_bd hp d (i + 1) (walkOf p q i).1 (out ++ [(walkOf p q i).2]) (by omega) (by omega) hw.1 (fun c hc => by
        rcases List.mem_append.1 hc with hc | hc
        · exact ho c hc
        · simp at hc; subst hc; exact hw.2)
      refine ⟨this.1, ?_⟩
      have := this.2
      simp at this
      omega
theorem cyclesOf_bd (p : List Int) : (∀ c ∈ cyclesOf p, GoodC c) ∧ (cyclesOf p).length ≤ 24 := by
  unfold cyclesOf
  by_cases h : permB p = true
  · rw [if_pos h]
    have hp := (permB_iff p).1 h
    have := cycGo_bd hp p.length 0 [] [] (by omega) (by omega) ⟨by simp, by simp⟩ (by simp)
    refine ⟨this.1, ?_⟩
    have := this.2
    have := hp.1
    simp at *
    omega
  · rw [if_neg h]
    simp
theorem i_cyc_l1 {p : List Int} (hp : isPerm p) (out : List (List Int)) (ho : out.length ≤ 24) (i : Int) (hi : 0 ≤ i ∧ i < p.length) (r : List (List Int)) : ∀ (f : Nat) (q c : List Int) (x : Int), Few p.length q → c.length ≤ q.length → f + q.length = p.length + 1 → 0 ≤ x → x < p.length →
    Ev (fun k => i_CyclesOf.l0 k p (flagsOf p.length (walkC p f q c x).1) (out ++ [(walkC p f q c x).2]) (p.length : Int) (i + 1)) r →
    Ev (fun k => i_CyclesOf.l1 k p (flagsOf p.length q) out c x (p.length : Int) i) r
  | 0, q, c, x, hq, _, hf, _, _, _ => by
    have := few_len hq
    omega
  | f + 1, q, c, x, hq, hc, hf, h0, h1, hr => by
    have hn := hp.1
    have hql := few_len hq
    refine ev_up ?_
    have hw : wrap64 (i + 1) = i + 1 := pw_wrap (by omega) (by omega)
    simp only [i_CyclesOf.l1, if_pos h0, flagsOf_len, if_pos h1, flagsOf_rd p.length q h0 h1, hw]
    rw [walkC] at hr
    by_cases hm : x ∈ q
    · rw [if_pos hm] at hr
      simp only [decide_eq_true hm, if_true, if_pos (show out.length < 5864062014805 by omega)]
      exact hr
    · rw [if_neg hm] at hr
      simp only [decide_eq_false hm, Bool.false_eq_true, if_false, if_pos (show c.length < 17592186044416 by omega), flagsOf_set p.length q h0 h1]
      have hx := perm_rd hp h0 h1
      exact i_cyc_l1 hp out ho i hi r f (q ++ [x]) (c ++ [x]) (rd p x) (few_snoc hq h0 h1 hm) (by simp; omega) (by simp; omega) hx.1 hx.2 hr
theorem i_cyc_l0 {p : List Int} (hp : isPerm p) : ∀ (d : Nat) (i : Int) (q : List Int) (out : List (List Int)), 0 ≤ i → i + d = p.length → Few p.length q → out.length + d ≤ 24 →
    Ev (fun k => i_CyclesOf.l0 k p (flagsOf p.length q) out (p.length : Int) i) (cycGo p d i q out)
  | 0, i, q, out, h0, hi, hq, ho => by
    refine ev_up ?_
    simp only [i_CyclesOf.l0, if_neg (show ¬ i < (p.length : Int) by omega)]
    exact Ev.now _
  | d + 1, i, q, out, h0, hi, hq, ho => by
    refine ev_up ?_
    have h1 : i < (p.length : Int) := by omega
    have hn := hp.1
    have hw64 : wrap64 (i + 1) = i + 1 := pw_wrap (by omega) (by omega)
    simp only [i_CyclesOf.l0, if_pos h1, if_pos h0, flagsOf_len, flagsOf_rd p.length q h0 h1, hw64]
    have hql := few_len hq
    rw [cycGo]
    by_cases hm : i ∈ q
    · simp only [decide_eq_true hm, if_true]
      rw [walkOf_in hq hm, if_pos hm]
      exact i_cyc_l0 hp d (i + 1) q out (by omega) (by omega) hq (by omega)
    · simp only [decide_eq_false hm, Bool.false_eq_true, if_false, if_neg hm]
      refine i_cyc_l1 hp out (by omega) i ⟨h0, h1⟩ _ (p.length + 1 - q.length) q [] i hq (by simp) (by omega) h0 h1 ?_
      have e : walkC p (p.length + 1 - q.length) q [] i = walkOf p q i := rfl
      rw [e]
      have hw := walkOf_bd hp hq h0 h1
      exact i_cyc_l0 hp d (i + 1) _ _ (by omega) (by omega) hw.1 (by simp; omega)
theorem i_cycles (p : List Int) : Ev (fun k => i_CyclesOf.f k p) (cyclesOf p) := by
  unfold i_CyclesOf.f cyclesOf
  simp only [i_PermOk.f, Option.bind_some]
  by_cases h : permB p = true
  · have hp := (permB_iff p).1 h
    have hn := hp.1
    simp only [if_pos h, if_pos (Int.natCast_nonneg p.length), Int.toNat_natCast, if_pos (show p.length ≤ 281474976710656 by omega), ← flagsOf_nil]
    exact i_cyc_l0 hp p.length 0 [] [] (by omega) (by omega) ⟨by simp, by simp⟩ (by simp; omega)
  · simp only [if_neg h]
    exact Ev.now _

theorem rd_ext {a b : List Int} (hl : a.length = b.length) (h : ∀ x : Int, 0 ≤ x → x < a.length → rd a x = rd b x) : a = b := by
  apply List.ext_getElem hl
  intro i h1 h2
  have := h (i : Int) (by omega) (by omega)
  rwa [rd_get a i h1, rd_get b i h2] at this
theorem rdS_same {a : List Int} {k v : Int} (k0 : 0 ≤ k) (k1 : k < a.length) : rd (a.set k.toNat v) k = v := by
  have : k.toNat < a.length := by omega
  simp [rd, List.getD, this]
theorem rdS_ne {a : List Int} {k l v : Int} (k0 : 0 ≤ k) (l0 : 0 ≤ l) (h : l ≠ k) : rd (a.set k.toNat v) l = rd a l := by
  have : k.toNat ≠ l.toNat := by omega
  simp [rd, List.getD, List.getElem?_set_ne this]
theorem pm_in {p : List Int} (hp : isPerm p) {x : Int} (x0 : 0 ≤ x) (x1 : x < p.length) : 0 ≤ rd p x ∧ rd p x < p.length := perm_rd hp x0 x1
theorem pm_inj {p : List Int} (hp : isPerm p) {x y : Int} (x0 : 0 ≤ x) (x1 : x < p.length) (y0 : 0 ≤ y) (y1 : y < p.length) (e : rd p x = rd p y) : x = y := by
  obtain ⟨i, rfl⟩ := Int.eq_ofNat_of_zero_le x0
  obtain ⟨j, rfl⟩ := Int.eq_ofNat_of_zero_le y0
  have hi : i < p.length := by omega
  have hj : j < p.length := by omega
  rw [rd_get p i hi, rd_get p j hj] at e
  have := List.pairwise_iff_getElem.1 hp.2.2
  rcases Nat.lt_trichotomy i j with h | h | h
  · exact absurd e (this i j hi hj h)
  · rw [h]
  · exact absurd e.symm (this j i hj hi h)
theorem pm_sur {p : List Int} (hp : isPerm p) {y : Int} (y0 : 0 ≤ y) (y1 : y < p.length) : ∃ x : Int, 0 ≤ x ∧ x < p.length ∧ rd p x = y := by
  have hm : y ∈ p := few_full (n := p.length) ⟨hp.2.2, hp.2.1⟩ rfl y0 y1
  obtain ⟨i, hi, e⟩ := List.getElem_of_mem hm
  exact ⟨(i : Int), by omega, by omega, by rw [rd_get p i hi, e]⟩
theorem pm_of {a : List Int} (hl : a.length ≤ 24) (hb : ∀ x : Int, 0 ≤ x → x < a.length → 0 ≤ rd a x ∧ rd a x < a.length) (hi : ∀ x y : Int, 0 ≤ x → x < a.length → 0 ≤ y → y < a.length → rd a x = rd a y → x = y) : isPerm a := by
  refine ⟨hl, fun x hx => ?_, ?_⟩
  · obtain ⟨i, h, rfl⟩ := List.getElem_of_mem hx
    have := hb (i : Int) (by omega) (by omega)
    rwa [rd_get a i h] at this
  · refine List.pairwise_iff_getElem.2 fun i j h1 h2 hij e => ?_
    have := hi (i : Int) (j : Int) (by omega) (by omega) (by omega) (by omega) (by rw [rd_get a i h1, rd_get a j h2, e])
    omega
def invGo (p : List Int) : Nat → Int → List Int → List Int
  | 0, _, out => out
  | d + 1, i, out => invGo p d (i + 1) (out.set (rd p i).toNat i)
def invL (p : List Int) : List Int := invGo p p.length 0 (List.replicate p.length 0)
theorem invGo_spec {p : List Int} (hp : isPerm p) : ∀ (d : Nat) (i : Int) (out : List Int), 0 ≤ i → i + d = p.length → out.length = p.length → (∀ j : Int, 0 ≤ j → j < i → rd out (rd p j) = j) →
    (invGo p d i out).length = p.length ∧ ∀ j : Int, 0 ≤ j → j < p.length → rd (invGo p d i out) (rd p j) = j
  | 0, i, out, h0, hi, hl, h => ⟨hl, fun j j0 j1 => h j j0 (by omega)⟩
  | d + 1, i, out, h0, hi, hl, h => by
    have hb := pm_in hp h0 (by omega)
    refine invGo_spec hp d (i + 1) _ (by omega) (by omega) (by simpa using hl) ?_
    intro j j0 j1
    by_cases e : j = i
    · subst e
      exact rdS_same hb.1 (by omega)
    · have hj := pm_in hp j0 (by omega)
      rw [rdS_ne hb.1 hj.1 (fun e2 => e (pm_inj hp j0 (by omega) h0 (by omega) e2))]
      exact h j j0 (by omega)
theorem invL_len {p : List Int} (hp : isPerm p) : (invL p).length = p.length := (invGo_spec hp p.length 0 _ (by omega) (by omega) (by simp) (fun j j0 j1 => by omega)).1
theorem inv_left {p : List Int} (hp : isPerm p) {x : Int} (h0 : 0 ≤ x) (h1 : x < p.length) : rd (invL p) (rd p x) = x := (invGo_spec hp p.length 0 _ (by omega) (by omega) (by simp) (fun j j0 j1 => by omega)).2 x h0 h1
theorem inv_right {p : List Int} (hp : isPerm p) {y : Int} (h0 : 0 ≤ y) (h1 : y < p.length) : rd p (rd (invL p) y) = y ∧ 0 ≤ rd (invL p) y ∧ rd (invL p) y < p.length := by
  obtain ⟨x, x0, x1, e⟩ := pm_sur hp h0 h1
  rw [← e, inv_left hp x0 x1]
  exact ⟨rfl, x0, x1⟩
theorem inv_perm {p : List Int} (hp : isPerm p) : isPerm (invL p) := by
  have hl := invL_len hp
  refine pm_of (by have := hp.1; omega) (fun x h0 h1 => ?_) (fun x y x0 x1 y0 y1 e => ?_)
  · have := inv_right hp h0 (by omega)
    omega
  · rw [← (inv_right hp x0 (by omega)).1, e, (inv_right hp y0 (by omega)).1]
def thenL (p q : List Int) : List Int := p.map (rd q)
theorem then_len (p q : List Int) : (thenL p q).length = p.length := by simp [thenL]
theorem then_rd (p q : List Int) {x : Int} (h0 : 0 ≤ x) (h1 : x < p.length) : rd (thenL p q) x = rd q (rd p x) := by
  obtain ⟨i, rfl⟩ := Int.eq_ofNat_of_zero_le h0
  have hi : i < p.length := by omega
  rw [rd_get _ i (by rw [then_len]; exact hi), rd_get p i hi]
  simp [thenL]
theorem then_perm {p q : List Int} (hp : isPerm p) (hq : isPerm q) (he : p.length = q.length) : isPerm (thenL p q) := by
  have hl := then_len p q
  refine pm_of (by have := hp.1; omega) (fun x h0 h1 => ?_) (fun x y x0 x1 y0 y1 e => ?_)
  · have a := pm_in hp h0 (by omega)
    have := pm_in hq a.1 (by omega)
    rw [then_rd p q h0 (by omega)]
    omega
  · rw [then_rd p q x0 (by omega), then_rd p q y0 (by omega)] at e
    have a := pm_in hp x0 (by omega)
    have b := pm_in hp y0 (by omega)
    exact pm_inj hp x0 (by omega) y0 (by omega) (pm_inj hq a.1 (by omega) b.1 (by omega) e)
theorem i_inv_l0 {p : List Int} (hp : isPerm p) : ∀ (d : Nat) (i : Int) (out : List Int), 0 ≤ i → i + d = p.length → out.length = p.length → Ev (fun k => i_InversePerm.l0 k out p (p.length : Int) i) (invGo p d i out)
  | 0, i, out, h0, hi, hl => by
    refine ev_up ?_
    simp only [i_InversePerm.l0, if_neg (show ¬ i < (p.length : Int) by omega)]
    exact Ev.now _
  | d + 1, i, out, h0, hi, hl => by
    have hb := pm_in hp h0 (by omega)
    have hn := hp.1
    refine ev_up ?_
    simp only [i_InversePerm.l0, if_pos (show i < (p.length : Int) by omega), if_pos h0, if_pos hb.1, if_pos (show rd p i < (out.length : Int) by omega), pw_wrap (a := i + 1) (by omega) (by omega)]
    exact i_inv_l0 hp d (i + 1) _ (by omega) (by omega) (by simpa using hl)
theorem i_inv {p : List Int} (hp : isPerm p) : Ev (fun k => i_InversePerm.f k p) (invL p) := by
  have hn := hp.1
  unfold i_InversePerm.f
  simp only [i_PermOk.f, Option.bind_some, if_pos ((permB_iff p).2 hp), if_pos (Int.natCast_nonneg p.length), Int.toNat_natCast, if_pos (show p.length ≤ 35184372088832 by omega)]
  exact i_inv_l0 hp p.length 0 _ (by omega) (by omega) (by simp)
theorem i_thn_l0 {p q : List Int} (hp : isPerm p) (he : p.length = q.length) : ∀ (d : Nat) (i : Int) (out : List Int), 0 ≤ i → i + d = p.length → out.length = p.length → (∀ j : Int, 0 ≤ j → j < i → rd out j = rd q (rd p j)) → Ev (fun k => i_ThenPerm.l0 k q out p (p.length : Int) i) (thenL p q)
  | 0, i, out, h0, hi, hl, h => by
    refine ev_up ?_
    simp only [i_ThenPerm.l0, if_neg (show ¬ i < (p.length : Int) by omega)]
    have e : out = thenL p q := rd_ext (by rw [hl, then_len]) (fun x x0 x1 => by rw [then_rd p q x0 (by omega)]; exact h x x0 (by omega))
    rw [e]
    exact Ev.now _
  | d + 1, i, out, h0, hi, hl, h => by
    have hb := pm_in hp h0 (by omega)
    have hn := hp.1
    refine ev_up ?_
    simp only [i_ThenPerm.l0, if_pos (show i < (p.length : Int) by omega), if_pos h0, if_pos hb.1, if_pos (show rd p i < (q.length : Int) by omega), if_pos (show i < (out.length : Int) by omega), pw_wrap (a := i + 1) (by omega) (by omega)]
    refine i_thn_l0 hp he d (i + 1) _ (by omega) (by omega) (by simpa using hl) (fun j j0 j1 => ?_)
    by_cases e : j = i
    · subst e
      exact rdS_same h0 (by omega)
    · rw [rdS_ne h0 j0 e]
      exact h j j0 (by omega)
theorem i_thn {p q : List Int} (hp : isPerm p) (hq : isPerm q) (he : p.length = q.length) : Ev (fun k => i_ThenPerm.f k p q) (thenL p q) := by
  have hn := hp.1
  unfold i_ThenPerm.f
  simp only [i_PermOk.f, Option.bind_some, if_pos ((permB_iff p).2 hp), if_pos ((permB_iff q).2 hq), show ((p.length : Int) != (q.length : Int)) = false by rw [bne_eq_false_iff_eq]; omega]
  refine ev_up ?_
  simp only [i_ThenPerm.j0, Bool.false_eq_true, if_false, if_pos (Int.natCast_nonneg p.length), Int.toNat_natCast, if_pos (show p.length ≤ 35184372088832 by omega)]
  exact i_thn_l0 hp he p.length 0 _ (by omega) (by omega) (by simp) (fun j j0 j1 => by omega)

def iter (f : Int → Int) : Nat → Int → Int
  | 0, x => x
  | m + 1, x => iter f m (f x)
theorem iter_succ (f : Int → Int) : ∀ (m : Nat) (x : Int), iter f (m + 1) x = f (iter f m x)
  | 0, _ => rfl
  | m + 1, x => by rw [iter, iter_succ f m (f x), ← iter]
theorem iter_bd {n : Nat} {f : Int → Int} (hb : ∀ x : Int, 0 ≤ x → x < n → 0 ≤ f x ∧ f x < n) : ∀ (m : Nat) {x : Int}, 0 ≤ x → x < n → 0 ≤ iter f m x ∧ iter f m x < n
  | 0, _, h0, h1 => ⟨h0, h1⟩
  | m + 1, x, h0, h1 => iter_bd hb m (hb x h0 h1).1 (hb x h0 h1).2
def orb (f : Int → Int) : Nat → Int → List Int
  | 0, x => [x]
  | k + 1, x => x :: (orb f k x).map f
theorem orb_len (f : Int → Int) : ∀ (k : Nat) (x : Int), (orb f k x).length = k + 1
  | 0, _ => rfl
  | k + 1, x => by simp [orb, orb_len f k x]
theorem orb_mem (f : Int → Int) : ∀ (k : Nat) (x y : Int), y ∈ orb f k x → ∃ m, m ≤ k ∧ y = iter f m x
  | 0, x, y, h => by
    simp only [orb, List.mem_singleton] at h
    exact ⟨0, Nat.le_refl _, h⟩
  | k + 1, x, y, h => by
    simp only [orb, List.mem_cons, List.mem_map] at h
    rcases h with rfl | ⟨z, hz, rfl⟩
    · exact ⟨0, by omega, rfl⟩
    · obtain ⟨m, hm, rfl⟩ := orb_mem f k x z hz
      exact ⟨m + 1, by omega, (iter_succ f m x).symm⟩
theorem map_nodup {n : Nat} {g : Int → Int} (hg : ∀ x y : Int, 0 ≤ x → x < n → 0 ≤ y → y < n → g x = g y → x = y) : ∀ q : List Int, (∀ x ∈ q, 0 ≤ x ∧ x < (n : Int)) → q.Nodup → (q.map g).Nodup
  | [], _, _ => List.nodup_nil
  | y :: q, hb, hn => by
    have hn2 := List.nodup_cons.1 hn
    rw [List.map_cons, List.nodup_cons]
    refine ⟨fun hm => ?_, map_nodup hg q (fun z hz => hb z (List.mem_cons_of_mem _ hz)) hn2.2⟩
    obtain ⟨z, hz, e⟩ := List.mem_map.1 hm
    have b1 := hb z (List.mem_cons_of_mem _ hz)
    have b2 := hb y List.mem_cons_self
    have := hg z y b1.1 b1.2 b2.1 b2.2 e
    subst this
    exact hn2.1 hz
theorem orb_few {n : Nat} {f : Int → Int} (hb : ∀ x : Int, 0 ≤ x → x < n → 0 ≤ f x ∧ f x < n) (hg : ∀ x y : Int, 0 ≤ x → x < n → 0 ≤ y → y < n → f x = f y → x = y) {x : Int} (h0 : 0 ≤ x) (h1 : x < n) : ∀ k : Nat, (∀ m, 1 ≤ m → m ≤ k → iter f m x ≠ x) → Few n (orb f k x)
  | 0, _ => ⟨by simp [orb], fun y hy => by simp only [orb, List.mem_singleton] at hy; subst hy; exact ⟨h0, h1⟩⟩
  | k + 1, h => by
    have ih := orb_few hb hg h0 h1 k (fun m a b => h m a (by omega))
    refine ⟨?_, fun y hy => ?_⟩
    · rw [orb, List.nodup_cons]
      refine ⟨fun hm => ?_, map_nodup hg _ ih.2 ih.1⟩
      obtain ⟨z, hz, e⟩ := List.mem_map.1 hm
      obtain ⟨m, hm2, rfl⟩ := orb_mem f k x z hz
      have e : f (iter f m x) = x := e
      rw [← iter_succ f m x] at e
      exact h (m + 1) (by omega) (by omega) e
    · obtain ⟨m, _, rfl⟩ := orb_mem f (k + 1) x y hy
      exact iter_bd hb m h0 h1
theorem iter_ret {n : Nat} {f : Int → Int} (hb : ∀ x : Int, 0 ≤ x → x < n → 0 ≤ f x ∧ f x < n) (hg : ∀ x y : Int, 0 ≤ x → x < n → 0 ≤ y → y < n → f x = f y → x = y) {x : Int} (h0 : 0 ≤ x) (h1 : x < n) : ∃ m, 1 ≤ m ∧ m ≤ n ∧ iter f m x = x := by
  refine Classical.byContradiction fun hc => ?_
  have := few_len (orb_few hb hg h0 h1 n (fun m a b e => hc ⟨m, a, b, e⟩))
  rw [orb_len] at this
  omega
def its (p : List Int) (i : Int) (m : Nat) : List Int := (List.range m).map fun k => iter (rd p) k i
def aroundL (r u : List Int) : List Int := thenL (thenL r u) (thenL (invL r) (invL u))
def cornersL (r u : List Int) : List (List Int) := if transB r u = true then cyclesOf (aroundL r u) else []
theorem i_around {r u : List Int} (h : transB r u = true) : Ev (fun k => i_AroundOf.f k r u) (aroundL r u) := by
  obtain ⟨hr, hu, he, h0, _⟩ := transB_side h
  have l1 := invL_len hr
  have l2 := invL_len hu
  unfold i_AroundOf.f aroundL
  refine Ev.bind (i_surfOk r u) ?_
  simp only [if_pos h]
  refine Ev.bind (i_thn hr hu he) ?_
  refine Ev.bind (i_inv hr) ?_
  refine Ev.bind (i_inv hu) ?_
  refine Ev.bind (i_thn (inv_perm hr) (inv_perm hu) (by omega)) ?_
  refine Ev.bind (i_thn (then_perm hr hu he) (then_perm (inv_perm hr) (inv_perm hu) (by omega)) (by rw [then_len, then_len]; omega)) ?_
  exact Ev.now _
theorem i_corners (r u : List Int) : Ev (fun k => i_CornersOf.f k r u) (cornersL r u) := by
  unfold i_CornersOf.f cornersL
  refine Ev.bind (i_surfOk r u) ?_
  by_cases h : transB r u = true
  · simp only [if_pos h]
    refine Ev.bind (i_around h) ?_
    refine Ev.bind (i_cycles _) ?_
    exact Ev.now _
  · simp only [if_neg h]
    exact Ev.now _

def lensL (cs : List (List Int)) : List Int := cs.map fun c => (c.length : Int)
def anglesS (r u : List Int) : List Int := sortD (lensL (cornersL r u))
theorem corners_small (r u : List Int) : (∀ c ∈ cornersL r u, GoodC c) ∧ (cornersL r u).length ≤ 24 := by
  unfold cornersL
  split
  · exact cyclesOf_bd _
  · simp
theorem lens_small (r u : List Int) : (∀ x ∈ lensL (cornersL r u), 0 ≤ x ∧ x ≤ 24) ∧ (lensL (cornersL r u)).length ≤ 24 := by
  have h := corners_small r u
  refine ⟨fun x hx => ?_, by simpa [lensL] using h.2⟩
  obtain ⟨c, hc, rfl⟩ := List.mem_map.1 hx
  have := (h.1 c hc).2
  omega
theorem angles_small (r u : List Int) : (∀ x ∈ anglesS r u, 0 ≤ x ∧ x ≤ 24) ∧ (anglesS r u).length ≤ 24 := by
  have h := lens_small r u
  have hp := sortD_perm (lensL (cornersL r u))
  exact ⟨fun x hx => h.1 x (hp.subset hx), by have := hp.length_eq; unfold anglesS; omega⟩
theorem rdL_midA (pre suf : List (List Int)) (x : List Int) : rd_L3 (pre ++ x :: suf) (pre.length : Int) = x := by simp [rd_L3, List.getD]
theorem i_angles_l0 (cs : List (List Int)) (hl : cs.length ≤ 1000) (hc : ∀ c ∈ cs, GoodC c) : ∀ (suf pre : List (List Int)), cs = pre ++ suf → Ev (fun k => i_AnglesOf.l0 k (lensL pre) cs (cs.length : Int) (pre.length : Int)) (sortD (lensL cs))
  | [], pre, e => by
    have e2 : cs = pre := by simpa using e
    subst e2
    refine ev_up ?_
    have hs : slices_SortFunc_int_int.f (lensL cs) = some (sortD (lensL cs)) := by
      unfold slices_SortFunc_int_int.f
      rw [if_pos]
      · rfl
      · refine ⟨fun x hx => ?_, by simp [lensL]; omega⟩
        obtain ⟨c, hcm, rfl⟩ := List.mem_map.1 hx
        have := (hc c hcm).2
        omega
    simp only [i_AnglesOf.l0, if_neg (show ¬ ((cs.length : Int) < cs.length) by omega), hs, Option.bind_some]
    exact Ev.now _
  | c :: suf, pre, e => by
    have hlen : cs.length = pre.length + suf.length + 1 := by rw [e]; simp; omega
    have hx : rd_L3 cs (pre.length : Int) = c := by rw [e]; exact rdL_midA _ _ _
    have hw : wrap64 ((pre.length : Int) + 1) = ((pre ++ [c]).length : Int) := by rw [pw_wrap (by omega) (by omega)]; simp
    have ih := i_angles_l0 cs hl hc suf (pre ++ [c]) (by simp [e])
    have hm : lensL (pre ++ [c]) = lensL pre ++ [(c.length : Int)] := by simp [lensL]
    rw [hm] at ih
    refine ev_up ?_
    simp only [i_AnglesOf.l0, if_pos (show ((pre.length : Int) < cs.length) by omega), if_pos (Int.natCast_nonneg pre.length), hx, hw, if_pos (show (lensL pre).length < 17592186044416 by simp [lensL]; omega)]
    exact ih
theorem i_anglesOf (r u : List Int) : Ev (fun k => i_AnglesOf.f k r u) (anglesS r u) := by
  have h := corners_small r u
  unfold i_AnglesOf.f anglesS
  refine Ev.bind (i_corners r u) ?_
  exact i_angles_l0 (cornersL r u) (by omega) h.1 _ [] rfl
def strat (l : List Int) : List Int := l.flatMap fun x => if x > 1 then [x - 1] else []
def stratumS (r u : List Int) : List Int := strat (anglesS r u)
theorem strat_len : ∀ l : List Int, (strat l).length ≤ l.length
  | [] => by simp [strat]
  | x :: l => by
    have := strat_len l
    unfold strat at *
    rw [List.flatMap_cons, List.length_append]
    have h : (if x > 1 then [x - 1] else []).length ≤ 1 := by split <;> simp
    simp only [List.length_cons]
    omega
theorem i_strat_l0 (l : List Int) (hl : l.length ≤ 1000) (hb : ∀ x ∈ l, 0 ≤ x ∧ x ≤ 24) : ∀ (suf pre : List Int), l = pre ++ suf → Ev (fun k => i_StratumOf.l0 k (strat pre) l (l.length : Int) (pre.length : Int)) (strat l)
  | [], pre, e => by
    have e2 : l = pre := by simpa using e
    subst e2
    refine ev_up ?_
    simp only [i_StratumOf.l0, if_neg (show ¬ ((l.length : Int) < l.length) by omega)]
    exact Ev.now _
  | x :: suf, pre, e => by
    have hlen : l.length = pre.length + suf.length + 1 := by rw [e]; simp; omega
    have hx : rd l (pre.length : Int) = x := by rw [e]; exact rd_mid _ _ _
    have hw : wrap64 ((pre.length : Int) + 1) = ((pre ++ [x]).length : Int) := by rw [pw_wrap (by omega) (by omega)]; simp
    have hs := strat_len pre
    have hxb := hb x (by rw [e]; simp)
    have ih := i_strat_l0 l hl hb suf (pre ++ [x]) (by simp [e])
    have hm : strat (pre ++ [x]) = strat pre ++ (if x > 1 then [x - 1] else []) := by simp [strat]
    rw [hm] at ih
    refine ev_up ?_
    simp only [i_StratumOf.l0, if_pos (show ((pre.length : Int) < l.length) by omega), if_pos (Int.natCast_nonneg pre.length), hx, hw, if_pos (show (strat pre).length < 17592186044416 by omega), pw_wrap (a := x - 1) (by omega) (by omega)]
    by_cases c : x > 1
    · simp only [if_pos c] at ih ⊢
      exact ih
    · simp only [if_neg c, List.append_nil] at ih ⊢
      exact ih
theorem i_stratum (r u : List Int) : Ev (fun k => i_StratumOf.f k r u) (stratumS r u) := by
  have h := angles_small r u
  unfold i_StratumOf.f
  refine Ev.bind (i_anglesOf r u) ?_
  exact i_strat_l0 _ (by omega) h.1 _ [] rfl
def squaresS (r u : List Int) : Int := if transB r u = true then (r.length : Int) else 0
theorem i_squares (r u : List Int) : Ev (fun k => i_CountSquares.f k r u) (squaresS r u) := by
  unfold i_CountSquares.f squaresS
  refine Ev.bind (i_surfOk r u) ?_
  by_cases h : transB r u = true
  · simp only [if_pos h]; exact Ev.now _
  · simp only [if_neg h]; exact Ev.now _
def turnGo (r u a : List Int) : Nat → Int → Bool
  | 0, _ => true
  | d + 1, i => if rd a (rd r i) = rd (invL r) (rd a i) then (if rd a (rd u i) = rd (invL u) (rd a i) then turnGo r u a d (i + 1) else false) else false
def turnB (r u a : List Int) : Bool := permB a && decide (a.length = r.length) && turnGo r u a a.length 0
def IsT (r u a : List Int) : Prop := isPerm a ∧ a.length = r.length ∧ ∀ x : Int, 0 ≤ x → x < r.length → rd a (rd r x) = rd (invL r) (rd a x) ∧ rd a (rd u x) = rd (invL u) (rd a x)
theorem turnGo_iff (r u a : List Int) : ∀ (d : Nat) (i : Int), turnGo r u a d i = true ↔ ∀ x : Int, i ≤ x → x < i + d → rd a (rd r x) = rd (invL r) (rd a x) ∧ rd a (rd u x) = rd (invL u) (rd a x)
  | 0, i => ⟨fun _ x h0 h1 => by omega, fun _ => rfl⟩
  | d + 1, i => by
    rw [turnGo]
    constructor
    · intro h x h0 h1
      by_cases c1 : rd a (rd r i) = rd (invL r) (rd a i)
      · rw [if_pos c1] at h
        by_cases c2 : rd a (rd u i) = rd (invL u) (rd a i)
        · rw [if_pos c2] at h
          by_cases e : x = i
          · subst e
            exact ⟨c1, c2⟩
          · exact (turnGo_iff r u a d (i + 1)).1 h x (by omega) (by omega)
        · rw [if_neg c2] at h
          exact absurd h (by simp)
      · rw [if_neg c1] at h
        exact absurd h (by simp)
    · intro h
      have := h i (by omega) (by omega)
      rw [if_pos this.1, if_pos this.2]
      exact (turnGo_iff r u a d (i + 1)).2 fun x h0 h1 => h x (by omega) (by omega)
theorem turnB_iff (r u a : List Int) : turnB r u a = true ↔ IsT r u a := by
  unfold turnB IsT
  simp only [Bool.and_eq_true, decide_eq_true_eq, permB_iff]
  constructor
  · rintro ⟨⟨h1, h2⟩, h3⟩
    exact ⟨h1, h2, fun x x0 x1 => (turnGo_iff r u a _ 0).1 h3 x x0 (by omega)⟩
  · rintro ⟨h1, h2, h3⟩
    exact ⟨⟨h1, h2⟩, (turnGo_iff r u a _ 0).2 fun x x0 x1 => h3 x x0 (by omega)⟩
theorem i_turn_l0 {r u a : List Int} (hr : isPerm r) (hu : isPerm u) (he : r.length = u.length) (ha : isPerm a) (hl : a.length = r.length) : ∀ (d : Nat) (i : Int), 0 ≤ i → i + d = a.length → Ev (fun k => i_IsTurn.l0 k a (invL r) (invL u) (a.length : Int) i r u) (turnGo r u a d i)
  | 0, i, h0, hi => by
    refine ev_up ?_
    simp only [i_IsTurn.l0, if_neg (show ¬ i < (a.length : Int) by omega)]
    exact Ev.now _
  | d + 1, i, h0, hi => by
    have hn := ha.1
    have b1 := pm_in hr h0 (by omega)
    have b2 := pm_in hu h0 (by omega)
    have b3 := pm_in ha h0 (by omega)
    have l1 := invL_len hr
    have l2 := invL_len hu
    refine ev_up ?_
    simp only [i_IsTurn.l0, if_pos (show i < (a.length : Int) by omega), if_pos h0, if_pos (show i < (r.length : Int) by omega), if_pos b1.1, if_pos (show rd r i < (a.length : Int) by omega), if_pos b3.1, if_pos (show rd a i < ((invL r).length : Int) by omega), if_pos (show i < (u.length : Int) by omega), if_pos b2.1, if_pos (show rd u i < (a.length : Int) by omega), if_pos (show rd a i < ((invL u).length : Int) by omega), pw_wrap (a := i + 1) (by omega) (by omega)]
    rw [turnGo]
    by_cases c1 : rd a (rd r i) = rd (invL r) (rd a i)
    · by_cases c2 : rd a (rd u i) = rd (invL u) (rd a i)
      · simp only [if_pos c1, if_pos c2]
        exact i_turn_l0 hr hu he ha hl d (i + 1) (by omega) (by omega)
      · simp only [if_pos c1, if_neg c2]
        exact Ev.now _
    · simp only [if_neg c1]
      exact Ev.now _
theorem i_isTurn {r u : List Int} (h : transB r u = true) (a : List Int) : Ev (fun k => i_IsTurn.f k r u a) (turnB r u a) := by
  obtain ⟨hr, hu, he, h0, _⟩ := transB_side h
  unfold i_IsTurn.f turnB
  refine Ev.bind (i_surfOk r u) ?_
  simp only [if_pos h, i_PermOk.f, Option.bind_some]
  by_cases h1 : permB a = true
  · have ha := (permB_iff a).1 h1
    simp only [h1, if_true, Bool.true_and]
    by_cases h2 : a.length = r.length
    · simp only [show ((a.length : Int) != (r.length : Int)) = false by rw [bne_eq_false_iff_eq]; omega, decide_eq_true h2, Bool.true_and]
      refine ev_up ?_
      simp only [i_IsTurn.j0, Bool.false_eq_true, if_false]
      refine Ev.bind (i_inv hr) ?_
      refine Ev.bind (i_inv hu) ?_
      exact i_turn_l0 hr hu he ha h2 a.length 0 (by omega) (by omega)
    · simp only [show ((a.length : Int) != (r.length : Int)) = true by rw [bne_iff_ne]; omega, decide_eq_false h2, Bool.false_and]
      refine ev_up ?_
      simp only [i_IsTurn.j0, if_true]
      exact Ev.now _
  · simp only [if_neg h1, Bool.eq_false_iff.mpr h1, Bool.false_and]
    refine ev_up ?_
    simp only [i_IsTurn.j0, if_true]
    exact Ev.now _
def Ord (nb : Int → List Int) (q : List Int) : Prop := ∀ (j : Nat) (h : j < q.length), q[j] = 0 ∨ ∃ (i : Nat) (h' : i < j), q[j] ∈ nb (q[i]'(by omega))
theorem ord_push {nb : Int → List Int} {q : List Int} (ho : Ord nb q) {y k : Int} (hy : y ∈ q) (hk : k ∈ nb y) : Ord nb (push q k) := by
  unfold push
  split
  · obtain ⟨i, hi, rfl⟩ := List.getElem_of_mem hy
    intro j h
    by_cases hj : j < q.length
    · rw [List.getElem_append_left hj]
      rcases ho j hj with h2 | ⟨m, hm, h2⟩
      · exact .inl h2
      · exact .inr ⟨m, hm, by rw [List.getElem_append_left (by omega)]; exact h2⟩
    · have hj2 : j = q.length := by simp at h; omega
      subst hj2
      refine .inr ⟨i, hi, ?_⟩
      rw [List.getElem_append_left hi]
      simpa using hk
  · exact ho
theorem ord_pushAll {nb : Int → List Int} {y : Int} : ∀ (ks q : List Int), Ord nb q → y ∈ q → (∀ k ∈ ks, k ∈ nb y) → Ord nb (pushAll q ks)
  | [], q, ho, _, _ => ho
  | k :: ks, q, ho, hy, hk => by
    have e : pushAll q (k :: ks) = pushAll (push q k) ks := rfl
    rw [e]
    exact ord_pushAll ks (push q k) (ord_push ho hy (hk k (by simp))) (mem_push k hy) (fun z hz => hk z (List.mem_cons_of_mem _ hz))
theorem ord_bfs (nb : Int → List Int) : ∀ (f : Nat) (q : List Int) (i : Nat), Ord nb q → Ord nb (bfs nb f q i)
  | 0, q, i, h => h
  | f + 1, q, i, h => by
    rw [bfs]
    split
    · rename_i hi
      exact ord_bfs nb f _ _ (ord_pushAll (nb q[i]) q h (List.getElem_mem hi) (fun k hk => hk))
    · exact h
theorem reach_facts {r u : List Int} (h : transB r u = true) : Few r.length (reachOf r u) ∧ (∀ z : Int, 0 ≤ z → z < r.length → z ∈ reachOf r u) ∧ Ord (nbT r u) (reachOf r u) := by
  obtain ⟨hr, hu, he, h0, hq⟩ := transB_side h
  have hf : Few r.length (reachOf r u) := bfs_few (nbT r u) (fun x x0 x1 k hk => (nbT_lt hr hu he x0 x1 k hk).2) _ [0] 0 (few_z h0)
  refine ⟨hf, fun z z0 z1 => few_full hf hq z0 z1, ord_bfs _ _ _ _ ?_⟩
  intro j hj
  have : j = 0 := by simp at hj; omega
  subst this
  exact .inl rfl
theorem rd_memL {q : List Int} {x : Int} (x0 : 0 ≤ x) (x1 : x < q.length) : rd q x ∈ q := by
  have e : ((x.toNat : Nat) : Int) = x := by omega
  rw [← e, rd_get q x.toNat (by omega)]
  exact List.getElem_mem _
def reachK (r u : List Int) (k : Int) : List Int := bfs (nbT r u) (r.length + 1) [k] 0
theorem few_one {n : Nat} {k : Int} (k0 : 0 ≤ k) (k1 : k < n) : Few n [k] := ⟨by simp, fun x hx => by simp at hx; subst hx; exact ⟨k0, k1⟩⟩
theorem few_isPerm {q : List Int} {n : Nat} (hn : n ≤ 24) (h : Few n q) (hl : q.length = n) : isPerm q := ⟨by omega, fun x hx => by have := h.2 x hx; omega, h.1⟩
theorem closed_back {p : List Int} (hp : isPerm p) {P : Int → Prop} (hP : ∀ x : Int, 0 ≤ x → x < p.length → P x → P (rd p x)) {x : Int} (x0 : 0 ≤ x) (x1 : x < p.length) (h : P (rd p x)) : P x := by
  obtain ⟨m, m1, hm⟩ : ∃ m, 0 < m ∧ iter (rd p) m x = x := by
    obtain ⟨p', p1, _, e⟩ := iter_ret (n := p.length) (f := rd p) (fun y y0 y1 => pm_in hp y0 y1) (fun a b a0 a1 b0 b1 e => pm_inj hp a0 a1 b0 b1 e) x0 x1
    exact ⟨p', p1, e⟩
  obtain ⟨m', rfl⟩ : ∃ m', m = m' + 1 := ⟨m - 1, by omega⟩
  have e : iter (rd p) m' (rd p x) = x := hm
  have b := pm_in hp x0 x1
  have key : ∀ j, P (iter (rd p) j (rd p x)) ∧ 0 ≤ iter (rd p) j (rd p x) ∧ iter (rd p) j (rd p x) < p.length := by
    intro j
    induction j with
    | zero => exact ⟨h, b.1, b.2⟩
    | succ j ih =>
      rw [iter_succ]
      exact ⟨hP _ ih.2.1 ih.2.2 ih.1, pm_in hp ih.2.1 ih.2.2⟩
  rw [← e]
  exact (key m').1
theorem reachK_full {r u : List Int} (h : transB r u = true) {k : Int} (k0 : 0 ≤ k) (k1 : k < r.length) : Few r.length (reachK r u k) ∧ (reachK r u k).length = r.length := by
  obtain ⟨hr, hu, he, h0, hq⟩ := transB_side h
  obtain ⟨g1, g2, g3⟩ := reach_facts h
  have hnb : ∀ x : Int, 0 ≤ x → x < r.length → ∀ y ∈ nbT r u x, 0 ≤ y ∧ y < (r.length : Int) := fun x x0 x1 => nbT_lt hr hu he x0 x1
  have hf : Few r.length (reachK r u k) := bfs_few (nbT r u) (fun x x0 x1 y hy => (hnb x x0 x1 y hy).2) _ [k] 0 (few_one k0 k1)
  have hc := bfs_closed (n := r.length) (nbT r u) (fun x x0 x1 y hy => (hnb x x0 x1 y hy).2) (r.length + 1) [k] 0 (few_one k0 k1) (by omega) (fun j hj hji => absurd hji (Nat.not_lt_zero _))
  have hk : k ∈ reachK r u k := by
    obtain ⟨s, hs⟩ := bfs_pre (nbT r u) (r.length + 1) [k] 0
    unfold reachK
    rw [hs]
    simp
  have c1 : ∀ x : Int, 0 ≤ x → x < r.length → x ∈ reachK r u k → rd r x ∈ reachK r u k := fun x x0 x1 hx => hc x hx _ (by simp [nbT]) (pm_in hr x0 x1).1
  have c2 : ∀ x : Int, 0 ≤ x → x < u.length → x ∈ reachK r u k → rd u x ∈ reachK r u k := fun x x0 x1 hx => hc x hx _ (by simp [nbT]) (pm_in hu x0 x1).1
  have n1 : ∀ x : Int, 0 ≤ x → x < r.length → x ∉ reachK r u k → rd r x ∉ reachK r u k := fun x x0 x1 hx hm => hx (closed_back hr c1 x0 x1 hm)
  have n2 : ∀ x : Int, 0 ≤ x → x < u.length → x ∉ reachK r u k → rd u x ∉ reachK r u k := fun x x0 x1 hx hm => hx (closed_back hu c2 x0 x1 hm)
  have z : (0 : Int) ∈ reachK r u k := by
    refine Classical.byContradiction fun hz => ?_
    have all := bfs_sub (nbT r u) (fun x => (0 ≤ x ∧ x < (r.length : Int)) ∧ x ∉ reachK r u k) (fun x hx y hy _ => by
      refine ⟨hnb x hx.1.1 hx.1.2 y hy, ?_⟩
      simp only [nbT, List.mem_cons, List.not_mem_nil, or_false] at hy
      rcases hy with rfl | rfl
      · exact n1 x hx.1.1 hx.1.2 hx.2
      · exact n2 x hx.1.1 (by omega) hx.2) (r.length + 1) [0] 0 (fun x hx => by simp at hx; subst hx; exact ⟨⟨by omega, by omega⟩, hz⟩)
    exact (all k (g2 k k0 k1)).2 hk
  have full : ∀ x : Int, 0 ≤ x → x < r.length → x ∈ reachK r u k := fun x x0 x1 =>
    bfs_sub (nbT r u) (fun x => x ∈ reachK r u k) (fun x hx y hy y0 => hc x hx y hy y0) (r.length + 1) [0] 0 (fun x hx => by simp at hx; subst hx; exact z) x (g2 x x0 x1)
  refine ⟨hf, ?_⟩
  have hl := few_len hf
  refine Nat.le_antisymm hl (Nat.le_of_not_lt fun hlt => ?_)
  have hp := few_isPerm hr.1 g1 (by
    have := hq
    exact this)
  have hle : (reachOf r u).length ≤ (reachK r u k).length := by
    have hs : ∀ x ∈ reachOf r u, x ∈ reachK r u k := fun x hx => full x (g1.2 x hx).1 (g1.2 x hx).2
    have key : ∀ (a b : List Int), a.Nodup → (∀ x ∈ a, x ∈ b) → a.length ≤ b.length := by
      intro a
      induction a with
      | nil => intro b _ _; simp
      | cons x a ih =>
        intro b hn hs
        obtain ⟨b1, b2, rfl⟩ := List.append_of_mem (hs x (by simp))
        have hx := List.nodup_cons.1 hn
        have := ih (b1 ++ b2) hx.2 (fun y hy => by
          have := hs y (List.mem_cons_of_mem _ hy)
          simp only [List.mem_append, List.mem_cons] at this ⊢
          rcases this with h | h | h
          · exact .inl h
          · subst h; exact absurd hy hx.1
          · exact .inr h)
        simp only [List.length_append, List.length_cons] at this ⊢
        omega
    exact key _ _ g1.1 hs
  omega
def namesOf (r u : List Int) (k : Int) : List Int := invL (reachK r u k)
theorem reachK_perm {r u : List Int} (h : transB r u = true) {k : Int} (k0 : 0 ≤ k) (k1 : k < r.length) : isPerm (reachK r u k) := by
  have hf := reachK_full h k0 k1
  exact few_isPerm (transB_side h).1.1 hf.1 hf.2
theorem names_perm {r u : List Int} (h : transB r u = true) {k : Int} (k0 : 0 ≤ k) (k1 : k < r.length) : isPerm (namesOf r u k) ∧ (namesOf r u k).length = r.length := by
  have hp := reachK_perm h k0 k1
  have hf := reachK_full h k0 k1
  exact ⟨inv_perm hp, by unfold namesOf; rw [invL_len hp, hf.2]⟩
def numI (n : Nat) (q : List Int) : List Int := (List.range n).map fun (z : Nat) => if (z : Int) ∈ q then ((q.idxOf (z : Int) : Nat) : Int) else -1
theorem numI_len (n : Nat) (q : List Int) : (numI n q).length = n := by simp [numI]
theorem numI_rd (n : Nat) (q : List Int) {z : Int} (z0 : 0 ≤ z) (z1 : z < n) : rd (numI n q) z = if z ∈ q then ((q.idxOf z : Nat) : Int) else -1 := by
  have e : ((z.toNat : Nat) : Int) = z := by omega
  simp [rd, numI, List.getD, show z.toNat < n by omega, e]
theorem numI_push (n : Nat) (q : List Int) {x : Int} (x0 : 0 ≤ x) (x1 : x < n) (hx : x ∉ q) : (numI n q).set x.toNat (q.length : Int) = numI n (q ++ [x]) := by
  refine rd_ext (by simp [numI]) (fun z z0 z1 => ?_)
  rw [List.length_set, numI_len] at z1
  rw [numI_rd n _ z0 z1]
  by_cases e : z = x
  · subst e
    rw [rdS_same x0 (by rw [numI_len]; exact x1), if_pos (by simp), List.idxOf_append, if_neg hx]
    simp
  · rw [rdS_ne x0 z0 e, numI_rd n q z0 z1]
    by_cases hz : z ∈ q
    · rw [if_pos hz, if_pos (List.mem_append_left _ hz), List.idxOf_append, if_pos hz]
    · rw [if_neg hz, if_neg (by simp [hz, e])]
theorem numI_full {n : Nat} {q : List Int} (hq : isPerm q) (hl : q.length = n) : numI n q = invL q := by
  refine rd_ext (by rw [numI_len, invL_len hq, hl]) (fun z z0 z1 => ?_)
  rw [numI_len] at z1
  have hz := inv_right hq z0 (by omega)
  have hm : z ∈ q := by
    have := rd_memL (q := q) hz.2.1 (by omega)
    rwa [hz.1] at this
  rw [numI_rd n q z0 z1, if_pos hm]
  have hi : q.idxOf z < q.length := List.idxOf_lt_length_of_mem hm
  have e : rd q ((q.idxOf z : Nat) : Int) = z := by rw [rd_get q _ hi]; exact List.getElem_idxOf hi
  exact pm_inj hq (by omega) (by omega) hz.2.1 hz.2.2 (by rw [e, hz.1])
theorem i_names_l2 (rr u : List Int) (n : Nat) (hn : n ≤ 24) (x8 : Int) (hx : 0 ≤ x8 ∧ x8 ≤ 1000) (ys : List Int) (hy : ys.length ≤ 1000) (r : List Int) : ∀ (suf pre q : List Int), ys = pre ++ suf → Few n q → (∀ k ∈ suf, 0 ≤ k ∧ k < (n : Int)) →
    Ev (fun k => i_NamesFrom.l1 k (numI n (pushAll q suf)) (pushAll q suf) (x8 + 1) rr u) r → Ev (fun k => i_NamesFrom.l2 k (numI n q) q x8 ys (ys.length : Int) (pre.length : Int) rr u) r := by
  intro suf
  induction suf with
  | nil =>
    intro pre q h hq hk hr
    subst h
    refine ev_up ?_
    simp only [i_NamesFrom.l2, if_neg (nlt_end pre), pw_wrap (a := x8 + 1) (by omega) (by omega)]
    exact hr
  | cons c suf ih =>
    intro pre q h hq hk hr
    have hc := hk c (by simp)
    have hf := few_push hq hc.2
    have hi := ih (pre ++ [c]) (push q c) (by simp [h]) hf (fun k h' => hk k (by simp [h'])) hr
    subst h
    have hql := few_len hq
    refine ev_up ?_
    simp only [i_NamesFrom.l2, if_pos (lt_mid pre suf c), if_pos (Int.natCast_nonneg pre.length), rd_mid, wrap_snoc (x := c) (s := suf) (p := pre) (by simp at hy ⊢; omega), if_pos hc.1, numI_len, if_pos hc.2, numI_rd n q hc.1 hc.2]
    by_cases hm : c ∈ q
    · simp only [if_pos hm, if_neg (show ¬ ((q.idxOf c : Nat) : Int) < 0 by omega)]
      unfold push at hi
      rw [if_neg (fun h => h.2 hm)] at hi
      exact hi
    · simp only [if_neg hm, if_pos (show (-1 : Int) < 0 by omega), if_pos (show q.length < 17592186044416 by omega), numI_push n q hc.1 hc.2 hm]
      unfold push at hi
      rw [if_pos ⟨hc.1, hm⟩] at hi
      exact hi
theorem i_names_l1 {rr u : List Int} (hr : isPerm rr) (hu : isPerm u) (he : rr.length = u.length) : ∀ (f : Nat) (q : List Int) (i : Nat), Few rr.length q → i ≤ q.length → f + i = rr.length + 1 →
    Ev (fun k => i_NamesFrom.l1 k (numI rr.length q) q (i : Int) rr u) (numI rr.length (bfs (nbT rr u) f q i)) := by
  intro f
  have hn := hr.1
  induction f with
  | zero =>
    intro q i hq hi hf
    have := few_len hq
    omega
  | succ f ih =>
    intro q i hq hi hf
    have hql := few_len hq
    refine ev_up ?_
    by_cases h : i < q.length
    · have hx := hq.2 _ (List.getElem_mem h)
      simp only [i_NamesFrom.l1, if_pos (show ((i : Nat) : Int) < (q.length : Int) by omega), if_pos (Int.natCast_nonneg i), rd_get q i h, if_pos hx.1, if_pos hx.2, if_pos (show q[i] < (u.length : Int) by omega), Option.bind_some]
      have hlt := nbT_lt hr hu he hx.1 hx.2
      have hp := few_pushAll _ q hq (fun k hk => (hlt k hk).2)
      have := ih _ (i + 1) hp.1 (by have := hp.2; omega) (by omega)
      rw [bfs, dif_pos h]
      exact i_names_l2 rr u rr.length hn i (by omega) (nbT rr u q[i]) (by simp [nbT]) _ _ [] q rfl hq hlt this
    · simp only [i_NamesFrom.l1, if_neg (show ¬ ((i : Nat) : Int) < (q.length : Int) by omega)]
      rw [bfs_done _ _ _ _ h]
      exact Ev.now _
theorem i_names_l0 (r u : List Int) (n : Nat) (hn : n ≤ 24) {k : Int} (k0 : 0 ≤ k) (k1 : k < n) (res : List Int) : ∀ (d : Nat) (i : Int) (a : List Int), 0 ≤ i → i + d = n → a.length = n → (∀ z : Int, 0 ≤ z → z < i → rd a z = -1) →
    Ev (fun j => i_NamesFrom.l1 j (numI n [k]) [k] 0 r u) res → Ev (fun j => i_NamesFrom.l0 j k a (n : Int) i r u) res
  | 0, i, a, i0, hi, ha, hz, hr => by
    have e : a = numI n [] := rd_ext (by rw [numI_len, ha]) (fun x x0 x1 => by
      rw [hz x x0 (by omega), numI_rd n [] x0 (by omega)]
      simp)
    subst e
    have e2 := numI_push n [] k0 k1 (by simp)
    refine ev_up ?_
    simp only [i_NamesFrom.l0, if_neg (show ¬ i < (n : Int) by omega), if_pos k0, numI_len, if_pos k1]
    have e3 : (numI n []).set k.toNat 0 = numI n [k] := e2
    rw [e3]
    exact hr
  | d + 1, i, a, i0, hi, ha, hz, hr => by
    refine ev_up ?_
    simp only [i_NamesFrom.l0, if_pos (show i < (n : Int) by omega), if_pos i0, if_pos (show i < (a.length : Int) by omega), pw_wrap (a := i + 1) (by omega) (by omega)]
    refine i_names_l0 r u n hn k0 k1 res d (i + 1) _ (by omega) (by omega) (by simpa using ha) (fun z z0 z1 => ?_) hr
    by_cases e : z = i
    · subst e
      exact rdS_same z0 (by omega)
    · rw [rdS_ne i0 z0 e]
      exact hz z z0 (by omega)
theorem i_names {r u : List Int} (h : transB r u = true) {k : Int} (k0 : 0 ≤ k) (k1 : k < r.length) : Ev (fun j => i_NamesFrom.f j r u k) (namesOf r u k) := by
  obtain ⟨hr, hu, he, h0, _⟩ := transB_side h
  have hn := hr.1
  have hf := reachK_full h k0 k1
  unfold i_NamesFrom.f
  refine Ev.bind (i_surfOk r u) ?_
  simp only [if_pos h, if_neg (show ¬ k < 0 by omega), decide_eq_false (show ¬ k ≥ (r.length : Int) by omega)]
  refine ev_up ?_
  simp only [i_NamesFrom.j0, Bool.false_eq_true, if_false, if_pos (Int.natCast_nonneg r.length), Int.toNat_natCast, if_pos (show r.length ≤ 35184372088832 by omega), Option.bind_some, List.length_replicate]
  refine i_names_l0 r u r.length hn k0 k1 _ r.length 0 _ (by omega) (by omega) (by simp) (fun z z0 z1 => by omega) ?_
  have e : namesOf r u k = numI r.length (reachK r u k) := (numI_full (reachK_perm h k0 k1) hf.2).symm
  rw [e]
  exact i_names_l1 hr hu he (r.length + 1) [k] 0 (few_one k0 k1) (by simp) (by omega)
def renGo (p nm : List Int) : Nat → Int → List Int → List Int
  | 0, _, out => out
  | d + 1, i, out => renGo p nm d (i + 1) (out.set (rd nm i).toNat (rd nm (rd p i)))
def renL (p nm : List Int) : List Int := renGo p nm p.length 0 (List.replicate p.length 0)
theorem renGo_spec {p nm : List Int} (hp : isPerm p) (hm : isPerm nm) (he : nm.length = p.length) : ∀ (d : Nat) (i : Int) (out : List Int), 0 ≤ i → i + d = p.length → out.length = p.length → (∀ j : Int, 0 ≤ j → j < i → rd out (rd nm j) = rd nm (rd p j)) →
    (renGo p nm d i out).length = p.length ∧ ∀ j : Int, 0 ≤ j → j < p.length → rd (renGo p nm d i out) (rd nm j) = rd nm (rd p j)
  | 0, i, out, i0, hi, ho, hj => ⟨ho, fun j j0 j1 => hj j j0 (by omega)⟩
  | d + 1, i, out, i0, hi, ho, hj => by
    have b := pm_in hm i0 (show i < nm.length by omega)
    rw [renGo]
    refine renGo_spec hp hm he d (i + 1) _ (by omega) (by omega) (by simpa using ho) (fun j j0 j1 => ?_)
    by_cases e : j = i
    · subst e
      exact rdS_same b.1 (by omega)
    · have c := pm_in hm j0 (show j < nm.length by omega)
      rw [rdS_ne b.1 c.1 (fun q => e (pm_inj hm j0 (by omega) i0 (by omega) q))]
      exact hj j j0 (by omega)
theorem renL_len {p nm : List Int} (hp : isPerm p) (hm : isPerm nm) (he : nm.length = p.length) : (renL p nm).length = p.length := (renGo_spec hp hm he p.length 0 _ (by omega) (by omega) (by simp) (fun j j0 j1 => by omega)).1
theorem renL_rd {p nm : List Int} (hp : isPerm p) (hm : isPerm nm) (he : nm.length = p.length) {j : Int} (j0 : 0 ≤ j) (j1 : j < p.length) : rd (renL p nm) (rd nm j) = rd nm (rd p j) := (renGo_spec hp hm he p.length 0 _ (by omega) (by omega) (by simp) (fun j j0 j1 => by omega)).2 j j0 j1
theorem i_ren_l0 {p nm : List Int} (hp : isPerm p) (hm : isPerm nm) (he : nm.length = p.length) : ∀ (d : Nat) (i : Int) (out : List Int), 0 ≤ i → i + d = p.length → out.length = p.length → Ev (fun k => i_RenamePerm.l0 k nm out p (p.length : Int) i) (renGo p nm d i out)
  | 0, i, out, i0, hi, ho => by
    refine ev_up ?_
    simp only [i_RenamePerm.l0, if_neg (show ¬ i < (p.length : Int) by omega)]
    exact Ev.now _
  | d + 1, i, out, i0, hi, ho => by
    have hn := hp.1
    have i1 : i < p.length := by omega
    have b := pm_in hp i0 i1
    have c := pm_in hm i0 (show i < nm.length by omega)
    refine ev_up ?_
    simp only [i_RenamePerm.l0, if_pos i1, if_pos i0, if_pos (show i < (nm.length : Int) by omega), if_pos b.1, if_pos (show rd p i < (nm.length : Int) by omega), if_pos c.1, if_pos (show rd nm i < (out.length : Int) by omega), pw_wrap (a := i + 1) (by omega) (by omega)]
    rw [renGo]
    exact i_ren_l0 hp hm he d (i + 1) _ (by omega) (by omega) (by simpa using ho)
theorem i_ren {p nm : List Int} (hp : isPerm p) (hm : isPerm nm) (he : nm.length = p.length) : Ev (fun k => i_RenamePerm.f k p nm) (renL p nm) := by
  have hn := hp.1
  unfold i_RenamePerm.f
  simp only [i_PermOk.f, (permB_iff p).2 hp, (permB_iff nm).2 hm, Option.bind_some, if_true, show ((p.length : Int) != (nm.length : Int)) = false by rw [bne_eq_false_iff_eq]; omega]
  refine ev_up ?_
  simp only [i_RenamePerm.j0, Bool.false_eq_true, if_false, if_pos (Int.natCast_nonneg p.length), Int.toNat_natCast, if_pos (show p.length ≤ 35184372088832 by omega)]
  exact i_ren_l0 hp hm he p.length 0 _ (by omega) (by omega) (by simp)
theorem i_renS {r u nm : List Int} (h : transB r u = true) (hm : isPerm nm) (he : nm.length = r.length) : Ev (fun k => i_RenameSurface.f k r u nm) (renL r nm, renL u nm, true) := by
  obtain ⟨hr, hu, he2, h0, _⟩ := transB_side h
  unfold i_RenameSurface.f
  refine Ev.bind (i_surfOk r u) ?_
  simp only [if_pos h, i_PermOk.f, (permB_iff nm).2 hm, Option.bind_some, if_true, show ((nm.length : Int) != (r.length : Int)) = false by rw [bne_eq_false_iff_eq]; omega]
  refine ev_up ?_
  simp only [i_RenameSurface.j0, Bool.false_eq_true, if_false]
  refine Ev.bind (i_ren hr hm he) ?_
  refine Ev.bind (i_ren hu hm (by omega)) ?_
  exact Ev.now _

abbrev Sf := S27
def renS (r u : List Int) (k : Int) : Sf := ⟨renL r (namesOf r u k), renL u (namesOf r u k)⟩
theorem renS_len {r u : List Int} (h : transB r u = true) {k : Int} (k0 : 0 ≤ k) (k1 : k < r.length) : (renS r u k).f0.length = r.length ∧ (renS r u k).f1.length = r.length := by
  obtain ⟨hr, hu, he, h0, _⟩ := transB_side h
  have hm := names_perm h k0 k1
  exact ⟨renL_len hr hm.1 hm.2, by rw [he]; exact renL_len hu hm.1 (by omega)⟩
def namedG (r u : List Int) : Nat → Int → List Sf
  | 0, _ => []
  | d + 1, i => renS r u i :: namedG r u d (i + 1)
def namedL (r u : List Int) : List Sf := if transB r u = true then namedG r u r.length 0 else []
theorem namedG_len (r u : List Int) : ∀ (d : Nat) (i : Int), (namedG r u d i).length = d
  | 0, _ => rfl
  | d + 1, i => by simp [namedG, namedG_len r u d]
theorem namedG_in {r u : List Int} (h : transB r u = true) : ∀ (d : Nat) (i : Int), 0 ≤ i → i + d ≤ r.length → ∀ x ∈ namedG r u d i, x.f0.length = r.length ∧ x.f1.length = r.length
  | 0, _, _, _, x, hx => absurd hx (by simp [namedG])
  | d + 1, i, i0, hi, x, hx => by
    rcases List.mem_cons.1 hx with rfl | hx
    · exact renS_len h i0 (by omega)
    · exact namedG_in h d (i + 1) (by omega) (by omega) x hx
theorem i_squaresN {r u : List Int} (h : transB r u = true) : Ev (fun k => i_CountSquares.f k r u) (r.length : Int) := by
  unfold i_CountSquares.f
  refine Ev.bind (i_surfOk r u) ?_
  simp only [if_pos h]
  exact Ev.now _
theorem i_named_l0 {r u : List Int} (h : transB r u = true) : ∀ (d : Nat) (i : Int) (out : List Sf), 0 ≤ i → i + d = r.length → out.length + d ≤ 1000 → Ev (fun k => i_namedFrom.l0 k out i r u) (out ++ namedG r u d i)
  | 0, i, out, i0, hi, ho => by
    refine ev_up ?_
    simp only [i_namedFrom.l0]
    refine Ev.bind (i_squaresN h) ?_
    simp only [if_neg (show ¬ i < (r.length : Int) by omega), namedG, List.append_nil]
    exact Ev.now _
  | d + 1, i, out, i0, hi, ho => by
    have hn := (transB_side h).1.1
    have i1 : i < r.length := by omega
    have hm := names_perm h i0 i1
    refine ev_up ?_
    simp only [i_namedFrom.l0]
    refine Ev.bind (i_squaresN h) ?_
    simp only [if_pos i1]
    refine Ev.bind (i_names h i0 i1) ?_
    refine Ev.bind (i_renS h hm.1 hm.2) ?_
    simp only [if_pos (show out.length < 2932031007402 by omega), pw_wrap (a := i + 1) (by omega) (by omega)]
    have ih := i_named_l0 h d (i + 1) (out ++ [renS r u i]) (by omega) (by omega) (by simp; omega)
    rw [List.append_assoc] at ih
    exact ih
theorem i_named (r u : List Int) : Ev (fun k => i_namedFrom.f k r u) (namedL r u) := by
  unfold i_namedFrom.f namedL
  by_cases h : transB r u = true
  · rw [if_pos h]
    have hn := (transB_side h).1.1
    have := i_named_l0 h r.length 0 [] (by omega) (by omega) (by simp; omega)
    simpa using this
  · rw [if_neg h]
    refine ev_up ?_
    simp only [i_namedFrom.l0]
    refine Ev.bind (a := 0) ?_ ?_
    · unfold i_CountSquares.f
      refine Ev.bind (i_surfOk r u) ?_
      simp only [if_neg h]
      exact Ev.now _
    · simp only [if_neg (show ¬ (0 : Int) < 0 by omega)]
      exact Ev.now _
def cmpL : List Int → List Int → Int
  | [], [] => 0
  | [], _ :: _ => -1
  | _ :: _, [] => 1
  | x :: a, y :: b => if x < y then -1 else if x > y then 1 else cmpL a b
theorem i_cmp (x y : Int) : cmp_Compare_int.f x y = some (if x < y then -1 else if x > y then 1 else 0) := by
  unfold cmp_Compare_int.f cmp_isNaN_int.f
  by_cases c : x < y
  · simp [c]
  · by_cases d : x > y
    · simp [c, d]
    · simp [c, d]
theorem i_cmp_l0 (a b : List Int) (ha : a.length ≤ 1000) : ∀ (sa pa sb pb : List Int), a = pa ++ sa → b = pb ++ sb → pa.length = pb.length → Ev (fun k => slices_Compare_int_int.l0 k a b a (a.length : Int) (pa.length : Int)) (cmpL sa sb)
  | [], pa, sb, pb, ea, eb, hl => by
    have e2 : a = pa := by simpa using ea
    subst e2
    refine ev_up ?_
    simp only [slices_Compare_int_int.l0, if_neg (show ¬ ((a.length : Int) < a.length) by omega)]
    have hb : b.length = pb.length + sb.length := by rw [eb]; simp
    cases sb with
    | nil =>
      simp only [if_neg (show ¬ ((a.length : Int) < (b.length : Int)) by simp at hb; omega), cmpL]
      exact Ev.now _
    | cons y sb =>
      simp only [if_pos (show ((a.length : Int) < (b.length : Int)) by simp at hb; omega), cmpL]
      exact Ev.now _
  | x :: sa, pa, sb, pb, ea, eb, hl => by
    have hlen : a.length = pa.length + sa.length + 1 := by rw [ea]; simp; omega
    have hx : rd a (pa.length : Int) = x := by rw [ea]; exact rd_mid _ _ _
    have hb : b.length = pb.length + sb.length := by rw [eb]; simp
    have hw : wrap64 ((pa.length : Int) + 1) = ((pa ++ [x]).length : Int) := by rw [pw_wrap (by omega) (by omega)]; simp
    refine ev_up ?_
    simp only [slices_Compare_int_int.l0, if_pos (show ((pa.length : Int) < a.length) by omega), if_pos (Int.natCast_nonneg pa.length), hx, hw]
    cases sb with
    | nil =>
      simp only [if_pos (show (pa.length : Int) ≥ (b.length : Int) by simp at hb; omega), cmpL]
      exact Ev.now _
    | cons y sb =>
      have hy : rd b (pa.length : Int) = y := by rw [eb, hl]; exact rd_mid _ _ _
      have hbl : (pa.length : Int) < (b.length : Int) := by simp at hb; omega
      simp only [if_neg (show ¬ (pa.length : Int) ≥ (b.length : Int) by omega), if_pos hbl, hy, i_cmp, Option.bind_some, cmpL]
      by_cases c : x < y
      · simp only [if_pos c, if_neg (show ¬ (-1 : Int) = 0 by omega)]
        exact Ev.now _
      · by_cases d : x > y
        · simp only [if_neg c, if_pos d, if_neg (show ¬ (1 : Int) = 0 by omega)]
          exact Ev.now _
        · simp only [if_neg c, if_neg d, if_true]
          exact i_cmp_l0 a b ha sa (pa ++ [x]) sb (pb ++ [y]) (by simp [ea]) (by simp [eb]) (by simp [hl])
theorem i_cmpL (a b : List Int) (ha : a.length ≤ 1000) : Ev (fun k => slices_Compare_int_int.f k a b) (cmpL a b) := i_cmp_l0 a b ha a [] b [] rfl rfl rfl
theorem cmpL_zero : ∀ a b : List Int, cmpL a b = 0 ↔ a = b
  | [], [] => by simp [cmpL]
  | [], _ :: _ => by simp [cmpL]
  | _ :: _, [] => by simp [cmpL]
  | x :: a, y :: b => by
    rw [cmpL]
    by_cases c : x < y
    · rw [if_pos c]
      simp
      intro e
      omega
    · by_cases d : x > y
      · rw [if_neg c, if_pos d]
        simp
        intro e
        omega
      · rw [if_neg c, if_neg d, cmpL_zero a b]
        have : x = y := by omega
        simp [this]
def cmpS (x y : Sf) : Int := if cmpL x.f0 y.f0 = 0 then cmpL x.f1 y.f1 else cmpL x.f0 y.f0
theorem i_cmpS (x y : Sf) (h0 : x.f0.length ≤ 1000) (h1 : x.f1.length ≤ 1000) : Ev (fun k => i_compareSurfaces.f k x.f0 x.f1 y.f0 y.f1) (cmpS x y) := by
  unfold i_compareSurfaces.f cmpS
  refine Ev.bind (i_cmpL _ _ h0) ?_
  by_cases c : cmpL x.f0 y.f0 = 0
  · simp only [if_pos c]
    exact Ev.bind (i_cmpL _ _ h1) (Ev.now _)
  · simp only [if_neg c]
    exact Ev.now _
def minS (m : Sf) (l : List Sf) : Sf := l.foldl (fun m x => if cmpS x m < 0 then x else m) m
theorem i_minGo : ∀ (l : List Sf) (m : Sf), (∀ x ∈ l, x.f0.length ≤ 1000 ∧ x.f1.length ≤ 1000) → Ev (fun k => minGo k m l) (minS m l)
  | [], m, _ => Ev.now _
  | x :: l, m, h => by
    have hx := h x List.mem_cons_self
    refine Ev.congr (f := fun k => (i_compareSurfaces.f k x.f0 x.f1 m.f0 m.f1).bind fun c => minGo k (if c < 0 then x else m) l) (fun k => rfl) ?_
    refine Ev.bind (i_cmpS x m hx.1 hx.2) ?_
    exact i_minGo l _ (fun y hy => h y (List.mem_cons_of_mem _ hy))
def canonS (r u : List Int) : Sf := minS (renS r u 0) (namedG r u (r.length - 1) 1)
theorem minS_len {n : Nat} : ∀ (l : List Sf) (m : Sf), m.f0.length = n ∧ m.f1.length = n → (∀ x ∈ l, x.f0.length = n ∧ x.f1.length = n) → (minS m l).f0.length = n ∧ (minS m l).f1.length = n
  | [], m, hm, _ => hm
  | x :: l, m, hm, h => by
    show (minS (if cmpS x m < 0 then x else m) l).f0.length = n ∧ _
    refine minS_len l _ ?_ (fun y hy => h y (List.mem_cons_of_mem _ hy))
    split
    · exact h x List.mem_cons_self
    · exact hm
theorem canonS_len {r u : List Int} (h : transB r u = true) : (canonS r u).f0.length = r.length ∧ (canonS r u).f1.length = r.length := by
  have h0 := (transB_side h).2.2.2.1
  exact minS_len _ _ (renS_len h (by omega) (by omega)) (namedG_in h _ 1 (by omega) (by omega))
theorem named_cons {r u : List Int} (h : transB r u = true) : namedL r u = renS r u 0 :: namedG r u (r.length - 1) 1 := by
  have h0 := (transB_side h).2.2.2.1
  unfold namedL
  rw [if_pos h]
  obtain ⟨m, hm⟩ : ∃ m, r.length = m + 1 := ⟨r.length - 1, by omega⟩
  rw [hm, namedG]
  rfl
def canonR (r u : List Int) : List Int × List Int × Bool := if transB r u = true then ((canonS r u).f0, (canonS r u).f1, true) else ([], [], false)
theorem i_canon (r u : List Int) : Ev (fun k => i_CanonOf.f k r u) (canonR r u) := by
  unfold i_CanonOf.f canonR
  refine Ev.bind (i_named r u) ?_
  by_cases h : transB r u = true
  · have hn := (transB_side h).1.1
    have hl : (namedL r u).length = r.length := by unfold namedL; rw [if_pos h, namedG_len]
    rw [if_pos h]
    simp only [if_pos (show (namedL r u).length ≤ 1000 by omega)]
    have hc := named_cons h
    rw [hc]
    simp only [if_neg (show ¬ (renS r u 0 :: namedG r u (r.length - 1) 1) = [] by simp)]
    have e0 : rd_T27 (renS r u 0 :: namedG r u (r.length - 1) 1) 0 = renS r u 0 := rfl
    rw [e0]
    refine Ev.bind (a := canonS r u) ?_ (Ev.now _)
    refine i_minGo _ _ (fun x hx => ?_)
    have := namedG_in h (r.length - 1) 1 (by omega) (by have := (transB_side h).2.2.2.1; omega) x hx
    omega
  · have hl : namedL r u = [] := by unfold namedL; rw [if_neg h]
    rw [if_neg h, hl]
    simp only [List.length_nil, if_pos (show 0 ≤ 1000 by omega), if_true]
    exact Ev.now _
theorem i_eq_l0 (a b : List Int) (ha : a.length ≤ 1000) (hab : a.length = b.length) : ∀ (sa pa sb pb : List Int), a = pa ++ sa → b = pb ++ sb → pa.length = pb.length → Ev (fun k => slices_Equal_int_int.l0 k a b (a.length : Int) (pa.length : Int)) (decide (sa = sb))
  | [], pa, sb, pb, ea, eb, hl => by
    have e2 : a = pa := by simpa using ea
    subst e2
    have hb : b.length = pb.length + sb.length := by rw [eb]; simp
    have : sb = [] := List.eq_nil_of_length_eq_zero (by omega)
    subst this
    refine ev_up ?_
    simp only [slices_Equal_int_int.l0, if_neg (show ¬ ((a.length : Int) < a.length) by omega)]
    exact Ev.now _
  | x :: sa, pa, sb, pb, ea, eb, hl => by
    have hlen : a.length = pa.length + sa.length + 1 := by rw [ea]; simp; omega
    have hx : rd a (pa.length : Int) = x := by rw [ea]; exact rd_mid _ _ _
    have hb : b.length = pb.length + sb.length := by rw [eb]; simp
    have hw : wrap64 ((pa.length : Int) + 1) = ((pa ++ [x]).length : Int) := by rw [pw_wrap (by omega) (by omega)]; simp
    cases sb with
    | nil => simp at hb; omega
    | cons y sb =>
      have hy : rd b (pa.length : Int) = y := by rw [eb, hl]; exact rd_mid _ _ _
      refine ev_up ?_
      simp only [slices_Equal_int_int.l0, if_pos (show ((pa.length : Int) < a.length) by omega), if_pos (Int.natCast_nonneg pa.length), if_pos (show (pa.length : Int) < (b.length : Int) by omega), hx, hy, hw]
      by_cases c : x = y
      · simp only [if_pos c]
        have ih := i_eq_l0 a b ha hab sa (pa ++ [x]) sb (pb ++ [y]) (by simp [ea]) (by simp [eb]) (by simp [hl])
        have e : decide (x :: sa = y :: sb) = decide (sa = sb) := decide_eq_decide.2 (by simp [c])
        rw [e]
        exact ih
      · simp only [if_neg c, decide_eq_false (show ¬ (x :: sa = y :: sb) by simp [c])]
        exact Ev.now _
theorem i_sameL (a b : List Int) (ha : a.length ≤ 1000) : Ev (fun k => i_SameList.f k a b) (decide (a = b)) := by
  unfold i_SameList.f
  refine Ev.bind (a := decide (a = b)) ?_ (Ev.now _)
  unfold slices_Equal_int_int.f
  by_cases h : a.length = b.length
  · simp only [if_pos (show (a.length : Int) = b.length by omega)]
    exact i_eq_l0 a b ha h a [] b [] rfl rfl rfl
  · simp only [if_neg (show ¬ (a.length : Int) = b.length by omega), decide_eq_false (show ¬ a = b from fun e => h (congrArg List.length e))]
    exact Ev.now _
theorem i_sameS (x y : Sf) (h0 : x.f0.length ≤ 1000) (h1 : x.f1.length ≤ 1000) : Ev (fun k => i_SameSurface.f k x.f0 x.f1 y.f0 y.f1) (decide (x.f0 = y.f0) && decide (x.f1 = y.f1)) := by
  unfold i_SameSurface.f
  refine Ev.bind (i_sameL _ _ h0) ?_
  by_cases c : x.f0 = y.f0
  · simp only [decide_eq_true c, if_true, Bool.true_and]
    exact Ev.bind (i_sameL _ _ h1) (Ev.now _)
  · simp only [decide_eq_false c, Bool.false_eq_true, if_false, Bool.false_and]
    exact Ev.now _
theorem trans_ind {r u : List Int} (h : transB r u = true) (P : Int → Prop) (h0 : P 0) (hr : ∀ x : Int, 0 ≤ x → x < r.length → P x → P (rd r x)) (hu : ∀ x : Int, 0 ≤ x → x < r.length → P x → P (rd u x)) {x : Int} (x0 : 0 ≤ x) (x1 : x < r.length) : P x := by
  obtain ⟨pr, pu, he, hn, hq⟩ := transB_side h
  obtain ⟨g1, g2, g3⟩ := reach_facts h
  have hnb : ∀ x : Int, 0 ≤ x → x < r.length → ∀ y ∈ nbT r u x, 0 ≤ y ∧ y < (r.length : Int) := fun x x0 x1 => nbT_lt pr pu he x0 x1
  exact (bfs_sub (nbT r u) (fun x => (0 ≤ x ∧ x < (r.length : Int)) ∧ P x) (fun x hx y hy _ => by
    refine ⟨hnb x hx.1.1 hx.1.2 y hy, ?_⟩
    simp only [nbT, List.mem_cons, List.not_mem_nil, or_false] at hy
    rcases hy with rfl | rfl
    · exact hr x hx.1.1 hx.1.2 hx.2
    · exact hu x hx.1.1 hx.1.2 hx.2) (r.length + 1) [0] 0 (fun x hx => by simp at hx; subst hx; exact ⟨⟨by omega, by omega⟩, h0⟩) x (g2 x x0 x1)).2
theorem nodup_sub_len : ∀ (a b : List Int), a.Nodup → (∀ x ∈ a, x ∈ b) → a.length ≤ b.length
  | [], b, _, _ => by simp
  | x :: a, b, hn, hs => by
    obtain ⟨b1, b2, rfl⟩ := List.append_of_mem (hs x (by simp))
    have hx := List.nodup_cons.1 hn
    have := nodup_sub_len a (b1 ++ b2) hx.2 (fun y hy => by
      have := hs y (List.mem_cons_of_mem _ hy)
      simp only [List.mem_append, List.mem_cons] at this ⊢
      rcases this with h | h | h
      · exact .inl h
      · subst h; exact absurd hy hx.1
      · exact .inr h)
    simp only [List.length_append, List.length_cons] at this ⊢
    omega
theorem trans_of {r u : List Int} (pr : isPerm r) (pu : isPerm u) (he : r.length = u.length) (hn : 0 < r.length) (hall : ∀ P : Int → Prop, P 0 → (∀ x : Int, 0 ≤ x → x < r.length → P x → P (rd r x)) → (∀ x : Int, 0 ≤ x → x < r.length → P x → P (rd u x)) → ∀ x : Int, 0 ≤ x → x < r.length → P x) : transB r u = true := by
  have hnb : ∀ x : Int, 0 ≤ x → x < r.length → ∀ y ∈ nbT r u x, 0 ≤ y ∧ y < (r.length : Int) := fun x x0 x1 => nbT_lt pr pu he x0 x1
  have hf0 := few_z (n := r.length) (by omega)
  have hfew : Few r.length (reachOf r u) := bfs_few _ (fun x x0 x1 y hy => (hnb x x0 x1 y hy).2) _ _ _ hf0
  have hcl : ∀ x ∈ reachOf r u, ∀ k ∈ nbT r u x, 0 ≤ k → k ∈ reachOf r u := bfs_closed _ (fun x x0 x1 y hy => (hnb x x0 x1 y hy).2) _ _ _ hf0 rfl (fun j hj hji => absurd hji (by omega))
  have h0 : (0 : Int) ∈ reachOf r u := by
    obtain ⟨s, hs⟩ := bfs_pre (nbT r u) (r.length + 1) [0] 0
    unfold reachOf
    rw [hs]
    simp
  have full := hall (fun x => x ∈ reachOf r u) h0 (fun x x0 x1 hx => hcl x hx _ (by simp [nbT]) (pm_in pr x0 x1).1) (fun x x0 x1 hx => hcl x hx _ (by simp [nbT]) (pm_in pu x0 (by omega)).1)
  have hlen : (reachOf r u).length = r.length := by
    refine Nat.le_antisymm (few_len hfew) ?_
    have hs : ((List.range r.length).map fun (i : Nat) => (i : Int)).length ≤ (reachOf r u).length := by
      refine nodup_sub_len _ _ ?_ fun x hx => ?_
      · exact List.pairwise_map.2 (List.nodup_range.imp fun {a b} hne e => hne (by have e2 : (a : Int) = (b : Int) := e; omega))
      · obtain ⟨i, hi, rfl⟩ := List.mem_map.1 hx
        rw [List.mem_range] at hi
        exact full _ (by omega) (by omega)
    simpa using hs
  unfold transB
  rw [(permB_iff r).2 pr, (permB_iff u).2 pu, decide_eq_true he, decide_eq_true hn, hlen]
  simp
theorem cmpL_anti : ∀ a b : List Int, cmpL b a = - cmpL a b
  | [], [] => rfl
  | [], _ :: _ => rfl
  | _ :: _, [] => rfl
  | x :: a, y :: b => by
    have ih := cmpL_anti a b
    rcases Int.lt_trichotomy x y with c | c | c
    · have h1 : ¬ y < x := by omega
      simp [cmpL, c, h1]
    · subst c
      simp [cmpL, ih]
    · have h1 : ¬ x < y := by omega
      simp [cmpL, c, h1]
theorem cmpL_trans : ∀ a b c : List Int, cmpL a b < 0 → cmpL b c < 0 → cmpL a c < 0
  | [], [], _, h, _ => by simp [cmpL] at h
  | [], _ :: _, [], _, h => by simp [cmpL] at h
  | [], _ :: _, _ :: _, _, _ => by simp [cmpL]
  | _ :: _, [], _, h, _ => by simp [cmpL] at h
  | _ :: _, _ :: _, [], _, h => by simp [cmpL] at h
  | x :: a, y :: b, z :: c, h1, h2 => by
    rw [cmpL] at h1 h2 ⊢
    by_cases p : x < z
    · rw [if_pos p]
      decide
    · by_cases p1 : x < y
      · rw [if_pos p1] at h1
        by_cases p2 : y < z
        · omega
        · rw [if_neg p2, if_pos (by omega)] at h2
          omega
      · rw [if_neg p1] at h1
        by_cases p3 : x > y
        · rw [if_pos p3] at h1
          omega
        · rw [if_neg p3] at h1
          by_cases p2 : y < z
          · omega
          · rw [if_neg p2] at h2
            by_cases p4 : y > z
            · rw [if_pos p4] at h2
              omega
            · rw [if_neg p4] at h2
              rw [if_neg p, if_neg (by omega)]
              exact cmpL_trans a b c h1 h2
theorem cmpS_anti (x y : Sf) : cmpS y x = - cmpS x y := by
  unfold cmpS
  rw [cmpL_anti x.f0 y.f0, cmpL_anti x.f1 y.f1]
  by_cases h : cmpL x.f0 y.f0 = 0
  · rw [if_pos h, if_pos (by omega)]
  · rw [if_neg h, if_neg (by omega)]
theorem cmpS_zero (x y : Sf) (h : cmpS x y = 0) : x = y := by
  unfold cmpS at h
  by_cases c : cmpL x.f0 y.f0 = 0
  · rw [if_pos c] at h
    have e1 := (cmpL_zero _ _).1 c
    have e2 := (cmpL_zero _ _).1 h
    cases x; cases y
    simp only at e1 e2
    rw [e1, e2]
  · rw [if_neg c] at h
    exact absurd h c
theorem cmpS_trans (x y z : Sf) (h1 : cmpS x y < 0) (h2 : cmpS y z < 0) : cmpS x z < 0 := by
  unfold cmpS at h1 h2 ⊢
  by_cases c : cmpL x.f0 y.f0 = 0
  · rw [if_pos c] at h1
    have e := (cmpL_zero _ _).1 c
    rw [e]
    by_cases d : cmpL y.f0 z.f0 = 0
    · rw [if_pos d] at h2 ⊢
      exact cmpL_trans _ _ _ h1 h2
    · rw [if_neg d] at h2 ⊢
      exact h2
  · rw [if_neg c] at h1
    by_cases d : cmpL y.f0 z.f0 = 0
    · have e := (cmpL_zero _ _).1 d
      rw [e] at h1 c
      rw [if_neg c]
      exact h1
    · rw [if_neg d] at h2
      have := cmpL_trans _ _ _ h1 h2
      rw [if_neg (by omega)]
      exact this
theorem minS_facts : ∀ (l : List Sf) (m : Sf), (minS m l = m ∨ minS m l ∈ l) ∧ ¬ cmpS m (minS m l) < 0 ∧ ∀ x ∈ l, ¬ cmpS x (minS m l) < 0
  | [], m => ⟨.inl rfl, by
    have := cmpS_anti m m
    show ¬ cmpS m m < 0
    omega, fun x hx => absurd hx (by simp)⟩
  | y :: l, m => by
    have e : minS m (y :: l) = minS (if cmpS y m < 0 then y else m) l := rfl
    rw [e]
    by_cases c : cmpS y m < 0
    · rw [if_pos c]
      obtain ⟨a, b, d⟩ := minS_facts l y
      refine ⟨.inr ?_, fun h => ?_, fun x hx => ?_⟩
      · rcases a with a | a
        · rw [a]; simp
        · simp [a]
      · exact b (cmpS_trans _ _ _ c h)
      · rcases List.mem_cons.1 hx with rfl | hx
        · exact b
        · exact d x hx
    · rw [if_neg c]
      obtain ⟨a, b, d⟩ := minS_facts l m
      refine ⟨?_, b, fun x hx => ?_⟩
      · rcases a with a | a
        · exact .inl a
        · exact .inr (by simp [a])
      · rcases List.mem_cons.1 hx with rfl | hx
        · intro h
          have h2 := cmpS_anti x m
          by_cases z : cmpS m x < 0
          · exact b (cmpS_trans _ _ _ z h)
          · have := cmpS_zero m x (by omega)
            subst this
            exact b h
        · exact d x hx
theorem mem_namedG (r u : List Int) (x : Sf) : ∀ (d : Nat) (i : Int), x ∈ namedG r u d i ↔ ∃ k, i ≤ k ∧ k < i + d ∧ x = renS r u k
  | 0, i => by
    simp only [namedG, List.not_mem_nil, false_iff]
    rintro ⟨k, a, b, _⟩
    omega
  | d + 1, i => by
    rw [namedG, List.mem_cons, mem_namedG r u x d (i + 1)]
    constructor
    · rintro (rfl | ⟨k, a, b, rfl⟩)
      · exact ⟨i, by omega, by omega, rfl⟩
      · exact ⟨k, by omega, by omega, rfl⟩
    · rintro ⟨k, a, b, rfl⟩
      by_cases e : k = i
      · subst e
        exact .inl rfl
      · exact .inr ⟨k, by omega, by omega, rfl⟩
theorem canon_facts {r u : List Int} (h : transB r u = true) : (∃ k : Int, 0 ≤ k ∧ k < r.length ∧ canonS r u = renS r u k) ∧ ∀ k : Int, 0 ≤ k → k < r.length → ¬ cmpS (renS r u k) (canonS r u) < 0 := by
  have hn := (transB_side h).2.2.2.1
  obtain ⟨a, b, c⟩ := minS_facts (namedG r u (r.length - 1) 1) (renS r u 0)
  refine ⟨?_, fun k k0 k1 => ?_⟩
  · rcases a with a | a
    · exact ⟨0, by omega, by omega, a⟩
    · obtain ⟨k, k0, k1, e⟩ := (mem_namedG r u _ _ _).1 a
      exact ⟨k, by omega, by omega, e⟩
  · by_cases e : k = 0
    · subst e
      exact b
    · exact c _ ((mem_namedG r u _ _ _).2 ⟨k, by omega, by omega, rfl⟩)
structure Iso (r u r' u' g : List Int) : Prop where
  pg : isPerm g
  lg : g.length = r.length
  le : r'.length = r.length
  hr : ∀ x : Int, 0 ≤ x → x < r.length → rd g (rd r x) = rd r' (rd g x)
  hu : ∀ x : Int, 0 ≤ x → x < r.length → rd g (rd u x) = rd u' (rd g x)
theorem push_sub {q : List Int} {k x : Int} (h : x ∈ push q k) : x ∈ q ∨ x = k := by
  unfold push at h
  split at h
  · rcases List.mem_append.1 h with h | h
    · exact .inl h
    · exact .inr (List.mem_singleton.1 h)
  · exact .inl h
theorem push_map {g : List Int} (hg : isPerm g) {q : List Int} (hq : ∀ x ∈ q, 0 ≤ x ∧ x < (g.length : Int)) {k : Int} (k0 : 0 ≤ k) (k1 : k < g.length) : push (q.map (rd g)) (rd g k) = (push q k).map (rd g) := by
  have h0 := (pm_in hg k0 k1).1
  have hm : rd g k ∈ q.map (rd g) ↔ k ∈ q := by
    rw [List.mem_map]
    constructor
    · rintro ⟨x, hx, e⟩
      have := pm_inj hg (hq x hx).1 (hq x hx).2 k0 k1 e
      exact this ▸ hx
    · exact fun h => ⟨k, h, rfl⟩
  unfold push
  by_cases c : k ∈ q
  · rw [if_neg (fun h => h.2 (hm.2 c)), if_neg (fun h => h.2 c)]
  · rw [if_pos ⟨h0, fun h => c (hm.1 h)⟩, if_pos ⟨k0, c⟩, List.map_append]
    rfl
theorem bfs_map {r u r' u' g : List Int} (h : Iso r u r' u' g) (pr : isPerm r) (pu : isPerm u) (he : r.length = u.length) : ∀ (f : Nat) (q : List Int) (i : Nat), (∀ x ∈ q, 0 ≤ x ∧ x < (r.length : Int)) → bfs (nbT r' u') f (q.map (rd g)) i = (bfs (nbT r u) f q i).map (rd g)
  | 0, q, i, hq => rfl
  | f + 1, q, i, hq => by
    rw [bfs, bfs]
    by_cases c : i < q.length
    · rw [dif_pos c, dif_pos (by simpa using c)]
      have b := hq _ (List.getElem_mem c)
      have b1 := pm_in pr b.1 b.2
      have b2 := pm_in pu b.1 (by omega)
      have lg := h.lg
      have hq2 : ∀ x ∈ push q (rd r q[i]), 0 ≤ x ∧ x < (r.length : Int) := fun x hx => by
        rcases push_sub hx with hx | rfl
        · exact hq x hx
        · exact b1
      have hq3 : ∀ x ∈ push (push q (rd r q[i])) (rd u q[i]), 0 ≤ x ∧ x < (r.length : Int) := fun x hx => by
        rcases push_sub hx with hx | rfl
        · exact hq2 x hx
        · exact ⟨b2.1, by omega⟩
      have e : pushAll (q.map (rd g)) (nbT r' u' ((q.map (rd g))[i]'(by simpa using c))) = (pushAll q (nbT r u q[i])).map (rd g) := by
        have e0 : (q.map (rd g))[i]'(by simpa using c) = rd g q[i] := by simp
        rw [e0]
        unfold nbT pushAll
        rw [← h.hr _ b.1 b.2, ← h.hu _ b.1 b.2]
        simp only [List.foldl_cons, List.foldl_nil]
        rw [push_map h.pg (fun x hx => by have := hq x hx; omega) b1.1 (by omega), push_map h.pg (fun x hx => by have := hq2 x hx; omega) b2.1 (by omega)]
      rw [e]
      exact bfs_map h pr pu he f _ (i + 1) (by
        unfold nbT pushAll
        simp only [List.foldl_cons, List.foldl_nil]
        exact hq3)
    · rw [dif_neg c, dif_neg (by simpa using c)]
theorem reachK_map {r u r' u' g : List Int} (h : Iso r u r' u' g) (ht : transB r u = true) {k : Int} (k0 : 0 ≤ k) (k1 : k < r.length) : reachK r' u' (rd g k) = (reachK r u k).map (rd g) := by
  obtain ⟨pr, pu, he, hn, _⟩ := transB_side ht
  unfold reachK
  rw [h.le]
  exact bfs_map h pr pu he _ [k] 0 (fun x hx => by rw [List.mem_singleton] at hx; subst hx; exact ⟨k0, k1⟩)
theorem ren_at {p nm q : List Int} (hp : isPerm p) (hq : isPerm q) (he : q.length = p.length) (e : nm = invL q) {j : Int} (j0 : 0 ≤ j) (j1 : j < p.length) : rd (renL p nm) j = rd nm (rd p (rd q j)) := by
  have hm : isPerm nm := e ▸ inv_perm hq
  have hl : nm.length = p.length := by rw [e, invL_len hq, he]
  have b := pm_in hq j0 (by omega)
  have h := renL_rd hp hm hl b.1 (by omega)
  rw [e, inv_left hq j0 (by omega)] at h
  rw [e]
  exact h
theorem renS_map {r u r' u' g : List Int} (h : Iso r u r' u' g) (ht : transB r u = true) (ht' : transB r' u' = true) {k : Int} (k0 : 0 ≤ k) (k1 : k < r.length) : renS r' u' (rd g k) = renS r u k := by
  obtain ⟨pr, pu, he, hn, _⟩ := transB_side ht
  obtain ⟨pr', pu', he', hn', _⟩ := transB_side ht'
  have lg := h.lg
  have le := h.le
  have bg := pm_in h.pg k0 (by omega)
  have q1 := reachK_perm ht k0 k1
  have q2 := reachK_perm ht' (k := rd g k) bg.1 (by omega)
  have n1 := names_perm ht k0 k1
  have n2 := names_perm ht' (k := rd g k) bg.1 (by omega)
  have e1 := reachK_map h ht k0 k1
  have l1 : (reachK r u k).length = r.length := (reachK_full ht k0 k1).2
  have l2 : (reachK r' u' (rd g k)).length = r'.length := (reachK_full ht' (k := rd g k) bg.1 (by omega)).2
  have hat : ∀ j : Int, 0 ≤ j → j < r.length → rd (reachK r' u' (rd g k)) j = rd g (rd (reachK r u k) j) := fun j j0 j1 => by
    rw [e1]
    obtain ⟨i, rfl⟩ := Int.eq_ofNat_of_zero_le j0
    have hi : i < (reachK r u k).length := by omega
    rw [rd_get _ i (by simpa using hi), rd_get _ i hi]
    simp
  have hnm : ∀ x : Int, 0 ≤ x → x < r.length → rd (namesOf r' u' (rd g k)) (rd g x) = rd (namesOf r u k) x := fun x x0 x1 => by
    have c := inv_right q1 (y := x) x0 (by omega)
    have d := hat (rd (namesOf r u k) x) c.2.1 (by have := c.2.2; unfold namesOf; omega)
    unfold namesOf at d ⊢
    rw [c.1] at d
    rw [← d]
    exact inv_left q2 c.2.1 (by have := c.2.2; omega)
  have key : ∀ p p' : List Int, isPerm p → isPerm p' → p.length = r.length → p'.length = r.length → (∀ x : Int, 0 ≤ x → x < r.length → rd g (rd p x) = rd p' (rd g x)) → renL p' (namesOf r' u' (rd g k)) = renL p (namesOf r u k) := by
    intro p p' hp hp' lp lp' hx
    refine rd_ext (by rw [renL_len hp' n2.1 (by omega), renL_len hp n1.1 (by omega), lp, lp']) fun j j0 j1 => ?_
    rw [renL_len hp' n2.1 (by omega)] at j1
    have b := pm_in q1 j0 (by omega)
    have b2 := pm_in hp b.1 (by omega)
    rw [ren_at (nm := namesOf r' u' (rd g k)) hp' q2 (by omega) rfl j0 (by omega), ren_at (nm := namesOf r u k) hp q1 (by omega) rfl j0 (by omega), hat j j0 (by omega), ← hx _ b.1 (by omega), hnm _ b2.1 (by omega)]
  unfold renS
  rw [key r r' pr pr' rfl le h.hr, key u u' pu pu' (by omega) (by omega) h.hu]
theorem canon_iso {r u r' u' g : List Int} (h : Iso r u r' u' g) (ht : transB r u = true) (ht' : transB r' u' = true) : canonS r' u' = canonS r u := by
  obtain ⟨⟨k, k0, k1, e⟩, m⟩ := canon_facts ht
  obtain ⟨⟨k', k0', k1', e'⟩, m'⟩ := canon_facts ht'
  have lg := h.lg
  have le := h.le
  have bg := pm_in h.pg k0 (by omega)
  have c := inv_right h.pg (y := k') k0' (by omega)
  have a1 := m' (rd g k) bg.1 (by omega)
  rw [renS_map h ht ht' k0 k1, ← e] at a1
  have a2 := m (rd (invL g) k') c.2.1 (by omega)
  rw [← renS_map h ht ht' c.2.1 (by omega), c.1, ← e'] at a2
  have := cmpS_anti (canonS r u) (canonS r' u')
  exact (cmpS_zero _ _ (by omega)).symm
theorem iso_names {r u : List Int} (ht : transB r u = true) {k : Int} (k0 : 0 ≤ k) (k1 : k < r.length) : Iso r u (renS r u k).f0 (renS r u k).f1 (namesOf r u k) := by
  obtain ⟨pr, pu, he, hn, _⟩ := transB_side ht
  have n1 := names_perm ht k0 k1
  exact ⟨n1.1, n1.2, (renS_len ht k0 k1).1, fun x x0 x1 => (renL_rd pr n1.1 n1.2 x0 x1).symm, fun x x0 x1 => (renL_rd pu n1.1 (by omega) x0 (by omega)).symm⟩
theorem then_iso {r u r' u' g r'' u'' g' : List Int} (h : Iso r u r' u' g) (h' : Iso r' u' r'' u'' g') (pr : isPerm r) (pu : isPerm u) (he : r.length = u.length) : Iso r u r'' u'' (thenL g g') := by
  have lg := h.lg
  have le := h.le
  have lg' := h'.lg
  have le' := h'.le
  refine ⟨then_perm h.pg h'.pg (by omega), by rw [then_len]; omega, by omega, fun x x0 x1 => ?_, fun x x0 x1 => ?_⟩
  · have b := pm_in pr x0 x1
    have bx := pm_in h.pg x0 (by omega)
    rw [then_rd _ _ b.1 (by omega), then_rd _ _ x0 (by omega), h.hr x x0 x1, h'.hr _ bx.1 (by omega)]
  · have b := pm_in pu x0 (by omega)
    have bx := pm_in h.pg x0 (by omega)
    rw [then_rd _ _ b.1 (by omega), then_rd _ _ x0 (by omega), h.hu x x0 x1, h'.hu _ bx.1 (by omega)]
theorem inv_iso {r u r' u' g : List Int} (h : Iso r u r' u' g) (pr : isPerm r) (pu : isPerm u) (he : r.length = u.length) : Iso r' u' r u (invL g) := by
  have lg := h.lg
  have le := h.le
  have li := invL_len h.pg
  refine ⟨inv_perm h.pg, by omega, by omega, fun x x0 x1 => ?_, fun x x0 x1 => ?_⟩
  · have c := inv_right h.pg (y := x) x0 (by omega)
    have e := h.hr (rd (invL g) x) c.2.1 (by omega)
    rw [c.1] at e
    have b := pm_in pr c.2.1 (by omega)
    rw [← e, inv_left h.pg b.1 (by omega)]
  · have c := inv_right h.pg (y := x) x0 (by omega)
    have e := h.hu (rd (invL g) x) c.2.1 (by omega)
    rw [c.1] at e
    have b := pm_in pu c.2.1 (by omega)
    rw [← e, inv_left h.pg b.1 (by omega)]
theorem iso_of_canon {r u r' u' : List Int} (ht : transB r u = true) (ht' : transB r' u' = true) (e : canonS r u = canonS r' u') : ∃ g, Iso r u r' u' g := by
  obtain ⟨pr, pu, he, hn, _⟩ := transB_side ht
  obtain ⟨pr', pu', he', hn', _⟩ := transB_side ht'
  obtain ⟨⟨k, k0, k1, e1⟩, _⟩ := canon_facts ht
  obtain ⟨⟨k', k0', k1', e2⟩, _⟩ := canon_facts ht'
  have i1 := iso_names ht k0 k1
  have i2 := iso_names ht' k0' k1'
  rw [← e2, ← e, e1] at i2
  exact ⟨_, then_iso i1 (inv_iso i2 pr' pu' he') pr pu he⟩

def wordB (ws : List UInt8) : ByteArray := ⟨ws.toArray⟩
def letters : List UInt8 := [84, 116, 83, 115]
def GoodW (ws : List UInt8) : Prop := ∀ c ∈ ws, c ∈ letters
theorem wordB_size (ws : List UInt8) : (wordB ws).size = ws.length := by
  have h : (wordB ws).size = ws.toArray.size := rfl
  rw [h, List.size_toArray]
theorem bt_mid (p s : List UInt8) (c : UInt8) : bt (wordB (p ++ c :: s)) (p.length : Int) = (c.toNat : Int) := by
  have h : ((p.length : Nat) : Int).toNat < (wordB (p ++ c :: s)).size := by rw [wordB_size]; simp
  unfold bt
  rw [dif_pos h]
  have e : (wordB (p ++ c :: s))[((p.length : Nat) : Int).toNat]'h = c := by
    show (p ++ c :: s).toArray[((p.length : Nat) : Int).toNat]'_ = c
    simp
  rw [e]
theorem wordOk_l0 (ws : List UInt8) (hl : ws.length ≤ 40) (hg : GoodW ws) : ∀ (suf pre : List UInt8), ws = pre ++ suf → Ev (fun k => i_WordOk.l0 k (wordB ws) (pre.length : Int)) true
  | [], pre, e => by
    refine ev_up ?_
    have e2 : ws = pre := by simpa using e
    subst e2
    simp only [i_WordOk.l0, wordB_size, if_neg (show ¬ ((ws.length : Int) < ws.length) by omega), decide_eq_true (show (ws.length : Int) ≤ 40 by omega)]
    exact Ev.now _
  | c :: suf, pre, e => by
    refine ev_up ?_
    have hlen : ws.length = pre.length + suf.length + 1 := by rw [e]; simp; omega
    have hc := hg c (by rw [e]; simp)
    have hb : bt (wordB ws) (pre.length : Int) = (c.toNat : Int) := by rw [e]; exact bt_mid _ _ _
    have hw : wrap64 ((pre.length : Int) + 1) = ((pre ++ [c]).length : Int) := by rw [pw_wrap (by omega) (by omega)]; simp
    have hi : ∃ z : Int, strings_IndexByte.f (⟨#[84, 116, 83, 115]⟩ : ByteArray) (c.toNat : Int) = some z ∧ ¬ z < 0 := by
      simp only [letters, List.mem_cons, List.not_mem_nil, or_false] at hc
      rcases hc with rfl | rfl | rfl | rfl
      · exact ⟨0, by decide, by omega⟩
      · exact ⟨1, by decide, by omega⟩
      · exact ⟨2, by decide, by omega⟩
      · exact ⟨3, by decide, by omega⟩
    obtain ⟨z, hz, hz0⟩ := hi
    simp only [i_WordOk.l0, wordB_size, if_pos (show ((pre.length : Int) < ws.length) by omega), if_pos (show (0 ≤ (pre.length : Int)) by omega), hb, hz, Option.bind_some, if_neg hz0, hw]
    exact wordOk_l0 ws hl hg suf (pre ++ [c]) (by simp [e])
theorem wordOk (ws : List UInt8) (hl : ws.length ≤ 40) (hg : GoodW ws) : Ev (fun k => i_WordOk.f k (wordB ws)) true := wordOk_l0 ws hl hg ws [] rfl

def letterR (r u : List Int) (c : Int) : List Int := if c = 84 then r else if c = 116 then r else if c = 83 then invL u else u
def letterU (r u : List Int) (c : Int) : List Int := if c = 84 then thenL (invL r) u else if c = 116 then thenL r u else if c = 83 then r else invL r
theorem copyInts_ev {l : List Int} (h : l.length ≤ 1000) : i_copyInts.f l = some l := by
  unfold i_copyInts.f
  simp only [Option.bind_some, List.length_nil, List.nil_append, if_pos (show 0 + l.length < 17592186044416 by omega)]
theorem back_of {p : List Int} (hp : isPerm p) {P : Int → Prop} (hP : ∀ x : Int, 0 ≤ x → x < p.length → P x → P (rd (invL p) x)) {x : Int} (x0 : 0 ≤ x) (x1 : x < p.length) (h : P x) : P (rd p x) := by
  have b := pm_in hp x0 x1
  refine closed_back (inv_perm hp) (P := P) (fun y y0 y1 => hP y y0 (by rw [invL_len hp] at y1; exact y1)) b.1 (by rw [invL_len hp]; exact b.2) ?_
  rw [inv_left hp x0 x1]
  exact h
theorem letter_trans {r u : List Int} (h : transB r u = true) (c : Int) : transB (letterR r u c) (letterU r u c) = true ∧ (letterR r u c).length = r.length := by
  obtain ⟨pr, pu, he, hn, _⟩ := transB_side h
  have ir := inv_perm pr
  have iu := inv_perm pu
  have lr := invL_len pr
  have lu := invL_len pu
  unfold letterR letterU
  by_cases c1 : c = 84
  · rw [if_pos c1, if_pos c1]
    refine ⟨trans_of pr (then_perm ir pu (by omega)) (by rw [then_len]; omega) hn fun P h0 h1 h2 x x0 x1 => trans_ind h P h0 h1 (fun y y0 y1 hy => ?_) x0 x1, rfl⟩
    have b := pm_in pr y0 y1
    have := h2 (rd r y) b.1 b.2 (h1 y y0 y1 hy)
    rw [then_rd _ _ b.1 (by omega), inv_left pr y0 y1] at this
    exact this
  · by_cases c2 : c = 116
    · rw [if_neg c1, if_neg c1, if_pos c2, if_pos c2]
      refine ⟨trans_of pr (then_perm pr pu he) (by rw [then_len]) hn fun P h0 h1 h2 x x0 x1 => trans_ind h P h0 h1 (fun y y0 y1 hy => ?_) x0 x1, rfl⟩
      have b := inv_right pr y0 y1
      have hz : P (rd (invL r) y) := closed_back pr h1 b.2.1 b.2.2 (by rw [b.1]; exact hy)
      have := h2 (rd (invL r) y) b.2.1 b.2.2 hz
      rw [then_rd _ _ b.2.1 b.2.2, b.1] at this
      exact this
    · by_cases c3 : c = 83
      · rw [if_neg c1, if_neg c1, if_neg c2, if_neg c2, if_pos c3, if_pos c3]
        refine ⟨trans_of iu pr (by omega) (by omega) fun P h0 h1 h2 x x0 x1 => trans_ind h P h0 (fun y y0 y1 hy => h2 y y0 (by omega) hy) (fun y y0 y1 hy => back_of pu (fun z z0 z1 hz => h1 z z0 (by omega) hz) y0 (by omega) hy) x0 (by omega), by omega⟩
      · rw [if_neg c1, if_neg c1, if_neg c2, if_neg c2, if_neg c3, if_neg c3]
        refine ⟨trans_of pu ir (by omega) (by omega) fun P h0 h1 h2 x x0 x1 => trans_ind h P h0 (fun y y0 y1 hy => back_of pr (fun z z0 z1 hz => h2 z z0 (by omega) hz) y0 y1 hy) (fun y y0 y1 hy => h1 y y0 (by omega) hy) x0 (by omega), by omega⟩
theorem i_letter {r u : List Int} (h : transB r u = true) (c : Int) (hc : c = 84 ∨ c = 116 ∨ c = 83 ∨ c = 115) : Ev (fun k => i_letterSurface.f k r u c) (letterR r u c, letterU r u c) := by
  obtain ⟨pr, pu, he, hn, _⟩ := transB_side h
  have ir := inv_perm pr
  have cr : r.length ≤ 1000 := by have := pr.1; omega
  have cu : u.length ≤ 1000 := by omega
  unfold i_letterSurface.f letterR letterU
  by_cases c1 : c = 84
  · simp only [if_pos c1]
    unfold i_ShearSurface.f
    refine Ev.bind (a := (r, thenL (invL r) u, true)) (Ev.bind (i_surfOk r u) ?_) (Ev.now _)
    rw [h]
    simp only [if_true, copyInts_ev cr, Option.bind_some]
    exact Ev.bind (i_inv pr) (Ev.bind (i_thn ir pu (by rw [invL_len pr]; exact he)) (Ev.now _))
  · simp only [if_neg c1]
    by_cases c2 : c = 116
    · simp only [if_pos c2]
      unfold i_UnshearSurface.f
      refine Ev.bind (a := (r, thenL r u, true)) (Ev.bind (i_surfOk r u) ?_) (Ev.now _)
      rw [h]
      simp only [if_true, copyInts_ev cr, Option.bind_some]
      exact Ev.bind (i_thn pr pu he) (Ev.now _)
    · simp only [if_neg c2]
      by_cases c3 : c = 83
      · simp only [if_pos c3]
        unfold i_TurnSurface.f
        refine Ev.bind (a := (invL u, r, true)) (Ev.bind (i_surfOk r u) ?_) (Ev.now _)
        rw [h]
        simp only [if_true, copyInts_ev cr, Option.bind_some]
        exact Ev.bind (i_inv pu) (Ev.now _)
      · have c4 : c = 115 := by omega
        simp only [if_neg c3, if_pos c4]
        unfold i_UnturnSurface.f
        refine Ev.bind (a := (u, invL r, true)) (Ev.bind (i_surfOk r u) ?_) (Ev.now _)
        rw [h]
        simp only [if_true, copyInts_ev cu, Option.bind_some]
        exact Ev.bind (i_inv pr) (Ev.now _)
def runS (r u : List Int) : List UInt8 → List Int × List Int
  | [] => (r, u)
  | c :: ws => runS (letterR r u c.toNat) (letterU r u c.toNat) ws
theorem runS_trans : ∀ (ws : List UInt8) (r u : List Int), transB r u = true → transB (runS r u ws).1 (runS r u ws).2 = true
  | [], r, u, h => h
  | c :: ws, r, u, h => runS_trans ws _ _ (letter_trans h _).1
theorem letters_num {c : UInt8} (hc : c ∈ letters) : (c.toNat : Int) = 84 ∨ (c.toNat : Int) = 116 ∨ (c.toNat : Int) = 83 ∨ (c.toNat : Int) = 115 := by
  simp only [letters, List.mem_cons, List.not_mem_nil, or_false] at hc
  rcases hc with rfl | rfl | rfl | rfl
  · exact .inl rfl
  · exact .inr (.inl rfl)
  · exact .inr (.inr (.inl rfl))
  · exact .inr (.inr (.inr rfl))
theorem i_run_l0 (ws : List UInt8) (hl : ws.length ≤ 40) (hg : GoodW ws) : ∀ (suf pre : List UInt8) (r u : List Int), ws = pre ++ suf → transB r u = true → Ev (fun k => i_RunWord.l0 k (wordB ws) (pre.length : Int) r u) ((runS r u suf).1, (runS r u suf).2, true)
  | [], pre, r, u, e, h => by
    refine ev_up ?_
    have e2 : ws = pre := by simpa using e
    subst e2
    simp only [i_RunWord.l0, wordB_size, if_neg (show ¬ ((ws.length : Int) < ws.length) by omega)]
    exact Ev.now _
  | c :: suf, pre, r, u, e, h => by
    refine ev_up ?_
    have hlen : ws.length = pre.length + suf.length + 1 := by rw [e]; simp; omega
    have hc := letters_num (hg c (by rw [e]; simp))
    have hb : bt (wordB ws) (pre.length : Int) = (c.toNat : Int) := by rw [e]; exact bt_mid _ _ _
    have hw : wrap64 ((pre.length : Int) + 1) = ((pre ++ [c]).length : Int) := by rw [pw_wrap (by omega) (by omega)]; simp
    simp only [i_RunWord.l0, wordB_size, if_pos (show ((pre.length : Int) < ws.length) by omega), if_pos (show (0 ≤ (pre.length : Int)) by omega), hb, hw]
    refine Ev.bind (i_letter h _ hc) ?_
    exact i_run_l0 ws hl hg suf (pre ++ [c]) _ _ (by simp [e]) (letter_trans h _).1
theorem i_run {r u : List Int} (h : transB r u = true) (ws : List UInt8) (hl : ws.length ≤ 40) (hg : GoodW ws) : Ev (fun k => i_RunWord.f k r u (wordB ws)) ((runS r u ws).1, (runS r u ws).2, true) := by
  obtain ⟨pr, pu, he, hn, _⟩ := transB_side h
  have cr : r.length ≤ 1000 := by have := pr.1; omega
  have cu : u.length ≤ 1000 := by omega
  unfold i_RunWord.f
  refine Ev.bind (i_surfOk r u) ?_
  rw [h]
  simp only [if_true]
  refine Ev.bind (wordOk ws hl hg) ?_
  refine ev_up ?_
  simp only [i_RunWord.j0, Bool.not_true, Bool.false_eq_true, if_false, i_copySurface.f, copyInts_ev cr, copyInts_ev cu, Option.bind_some]
  exact i_run_l0 ws hl hg ws [] r u rfl h
def sameB (r u r' u' : List Int) : Bool := decide ((canonS r u).f0 = (canonS r' u').f0) && decide ((canonS r u).f1 = (canonS r' u').f1)
theorem sameB_iff {r u r' u' : List Int} (h : transB r u = true) (h' : transB r' u' = true) : sameB r u r' u' = true ↔ ∃ g, Iso r u r' u' g := by
  unfold sameB
  rw [Bool.and_eq_true, decide_eq_true_eq, decide_eq_true_eq]
  constructor
  · rintro ⟨a, b⟩
    exact iso_of_canon h h' (by
      generalize canonS r u = s at a b
      generalize canonS r' u' = t at a b
      cases s; cases t
      simp only at a b
      rw [a, b])
  · rintro ⟨g, i⟩
    rw [canon_iso i h h']
    exact ⟨rfl, rfl⟩
theorem i_are {r u r' u' : List Int} (h : transB r u = true) (h' : transB r' u' = true) : Ev (fun k => i_AreIsomorphic.f k r u r' u') (sameB r u r' u') := by
  have e1 : canonR r u = ((canonS r u).f0, (canonS r u).f1, true) := if_pos h
  have e2 : canonR r' u' = ((canonS r' u').f0, (canonS r' u').f1, true) := if_pos h'
  have n := (transB_side h).1.1
  have l := canonS_len h
  unfold i_AreIsomorphic.f
  refine Ev.bind (i_canon r u) ?_
  refine Ev.bind (i_canon r' u') ?_
  rw [e1, e2]
  simp only [if_true]
  exact i_sameS (canonS r u) (canonS r' u') (by omega) (by omega)
def fixB (r u : List Int) (ws : List UInt8) : Bool := sameB (runS r u ws).1 (runS r u ws).2 r u
theorem i_fixed {r u : List Int} (h : transB r u = true) (ws : List UInt8) (hl : ws.length ≤ 40) (hg : GoodW ws) : Ev (fun k => i_IsFixedBy.f k r u (wordB ws)) (fixB r u ws) := by
  unfold i_IsFixedBy.f fixB
  refine Ev.bind (i_run h ws hl hg) ?_
  simp only [if_true]
  exact Ev.bind (i_are (runS_trans ws r u h) h) (Ev.now _)
theorem half_run (r u : List Int) : runS r u [83, 83] = (invL r, invL u) := rfl
theorem half_iff {r u : List Int} (h : transB r u = true) : fixB r u [83, 83] = true ↔ ∃ a, IsT r u a := by
  have ht := runS_trans [83, 83] r u h
  unfold fixB
  rw [sameB_iff ht h]
  rw [half_run] at ht ⊢
  obtain ⟨pr, pu, he, hn, _⟩ := transB_side h
  have lr := invL_len pr
  have lu := invL_len pu
  constructor
  · rintro ⟨g, i⟩
    have j := inv_iso i (inv_perm pr) (inv_perm pu) (lr.trans (he.trans lu.symm))
    exact ⟨_, j.pg, j.lg, fun x x0 x1 => ⟨j.hr x x0 x1, j.hu x x0 x1⟩⟩
  · rintro ⟨a, pa, la, ha⟩
    exact ⟨_, inv_iso (⟨pa, la, lr, fun x x0 x1 => (ha x x0 x1).1, fun x x0 x1 => (ha x x0 x1).2⟩ : Iso r u (invL r) (invL u) a) pr pu he⟩
theorem i_half {r u : List Int} (h : transB r u = true) : Ev (fun k => i_HasHalfTurn.f k r u) (fixB r u [83, 83]) := by
  unfold i_HasHalfTurn.f
  exact Ev.bind (i_fixed h [83, 83] (by decide) (fun c hc => by
    simp only [List.mem_cons, List.not_mem_nil, or_false, or_self] at hc
    subst hc
    decide)) (Ev.now _)

theorem laws_same_l0 (a b : List Int) (ha : a.length ≤ 1000) (hab : a.length = b.length) : ∀ (sa pa sb pb : List Int), a = pa ++ sa → b = pb ++ sb → pa.length = pb.length → Ev (fun k => laws_same.l0 k b a (a.length : Int) (pa.length : Int)) (decide (sa = sb))
  | [], pa, sb, pb, e1, e2, e3 => by
    have h1 : a.length = pa.length := by rw [e1]; simp
    have h3 : b.length = pb.length + sb.length := by rw [e2]; simp
    have h2 : sb = [] := List.eq_nil_of_length_eq_zero (by omega)
    subst h2
    refine ev_up ?_
    simp only [laws_same.l0, if_neg (show ¬ (pa.length : Int) < (a.length : Int) by omega)]
    exact Ev.now _
  | x :: sa, pa, [], pb, e1, e2, e3 => by
    have h1 : a.length = pa.length + sa.length + 1 := by rw [e1]; simp; omega
    have h2 : b.length = pb.length := by rw [e2]; simp
    omega
  | x :: sa, pa, y :: sb, pb, e1, e2, e3 => by
    have h1 : a.length = pa.length + sa.length + 1 := by rw [e1]; simp; omega
    have h2 : b.length = pb.length + sb.length + 1 := by rw [e2]; simp; omega
    have r1 : rd a (pa.length : Int) = x := by rw [e1]; exact rd_mid _ _ _
    have r2 : rd b (pa.length : Int) = y := by rw [e2, e3]; exact rd_mid _ _ _
    have hw : wrap64 ((pa.length : Int) + 1) = ((pa ++ [x]).length : Int) := by rw [pw_wrap (by omega) (by omega)]; simp
    refine ev_up ?_
    simp only [laws_same.l0, if_pos (show (pa.length : Int) < (a.length : Int) by omega), if_pos (show (0 : Int) ≤ (pa.length : Int) by omega), if_pos (show (pa.length : Int) < (b.length : Int) by omega), r1, r2, hw]
    by_cases c : x = y
    · subst c
      simp only [if_true]
      have := laws_same_l0 a b ha hab sa (pa ++ [x]) sb (pb ++ [x]) (by simp [e1]) (by simp [e2]) (by simp [e3])
      simpa using this
    · simp only [if_neg c]
      rw [decide_eq_false (by intro e; exact c (List.cons.inj e).1)]
      exact Ev.now _
theorem laws_sameL (a b : List Int) (ha : a.length ≤ 1000) : Ev (fun k => laws_same.f k a b) (decide (a = b)) := by
  unfold laws_same.f
  by_cases c : (a.length : Int) = (b.length : Int)
  · simp only [if_pos c]
    exact laws_same_l0 a b ha (by omega) a [] b [] rfl rfl rfl
  · simp only [if_neg c]
    rw [decide_eq_false (by intro e; rw [e] at c; exact c rfl)]
    exact Ev.now _
def sumI : List Int → Int
  | [] => 0
  | x :: xs => x + sumI xs
theorem sumI_perm {a b : List Int} (h : a.Perm b) : sumI a = sumI b := by
  induction h with
  | nil => rfl
  | cons x _ ih => simp only [sumI, ih]
  | swap x y l => simp only [sumI]; omega
  | trans _ _ h1 h2 => exact h1.trans h2
theorem laws_total_l0 (a : List Int) (ha : a.length ≤ 1000) (hx : ∀ x ∈ a, 0 ≤ x ∧ x ≤ 1000) : ∀ (suf pre : List Int) (s : Int), a = pre ++ suf → 0 ≤ s → s + 1000 * suf.length ≤ 1000000 →
    Ev (fun k => laws_total.l0 k s a (a.length : Int) (pre.length : Int)) (s + sumI suf) := by
  intro suf
  induction suf with
  | nil =>
    intro pre s h h0 h1
    have hlen : ¬ ((pre.length : Nat) : Int) < (a.length : Int) := by rw [h]; simp
    refine ev_up ?_
    simp only [laws_total.l0, if_neg hlen, sumI, Int.add_zero]
    exact Ev.now _
  | cons x suf ih =>
    intro pre s h h0 h1
    have hlt : ((pre.length : Nat) : Int) < (a.length : Int) := by rw [h]; exact lt_mid pre suf x
    have hrd : rd a (pre.length : Int) = x := by rw [h]; exact rd_mid pre suf x
    have hw : wrap64 ((pre.length : Int) + 1) = ((pre ++ [x]).length : Int) := wrap_snoc (s := suf) (by rw [← h]; omega)
    have hx1 := hx x (by rw [h]; simp)
    simp at h1
    refine ev_up ?_
    simp only [laws_total.l0, if_pos hlt, if_pos (Int.natCast_nonneg pre.length), hrd, hw, pw_wrap (a := s + x) (by omega) (by omega), sumI]
    rw [← Int.add_assoc]
    exact ih (pre ++ [x]) (s + x) (by simp [h]) (by omega) (by omega)
theorem laws_totalL (a : List Int) (ha : a.length ≤ 1000) (hx : ∀ x ∈ a, 0 ≤ x ∧ x ≤ 1000) : Ev (fun k => laws_total.f k a) (sumI a) := by
  have := laws_total_l0 a ha hx a [] 0 rfl (by omega) (by omega)
  simpa [laws_total.f] using this

def turnV (x : Int) : Int := x / 4 * 4 + 3 - x % 4
def lensOf (r u : List Int) : List Int := lensL (cyclesOf (aroundL r u))
def thrB (x : Int) : Bool := decide (x = 3)
def oneThree (x : Int) : Bool := decide (x = 1) || decide (x = 3)
def chkT (s : List Cl) : Bool := turnB (unfR s) (unfU s) (vals turnV (4 * s.length) 0) && (lensOf (unfR s) (unfU s)).all oneThree && decide (((lensOf (unfR s) (unfU s)).filter thrB).length = ((angP s).filter thrB).length) && decide (sumI (angP s) = 4 * s.length) && decide (4 ≤ upSum (negN s) s.length 0 ∧ upSum (negN s) s.length 0 ≤ 2 * s.length + 2)
theorem chk_all : shapes.all chkT = true := by decide +kernel
theorem strat_reps : ∀ l : List Int, (∀ x ∈ l, oneThree x = true) → strat l = List.replicate (l.filter thrB).length 2
  | [], _ => rfl
  | x :: l, h => by
    have ih := strat_reps l fun y hy => h y (by simp [hy])
    have hx := h x (by simp)
    unfold oneThree at hx
    rw [Bool.or_eq_true, decide_eq_true_eq, decide_eq_true_eq] at hx
    have e : strat (x :: l) = (if x > 1 then [x - 1] else []) ++ strat l := rfl
    rw [e, ih]
    rcases hx with rfl | rfl
    · rw [List.filter_cons_of_neg (by decide)]
      rfl
    · rw [List.filter_cons_of_pos (by decide)]
      rfl
theorem tb_l0 (l an : List Int) (c : List Cl) (hc : c.length ≤ 6) (r u : List Int) (res : Bool) : ∀ (d : Nat) (i : Int) (out : List Int), 0 ≤ i → i + d = 4 * c.length → (out.length : Int) = i → Ev (fun k => laws_FnTables.l1 k c (out ++ vals turnV d i) [] an (an.length : Int) 0 r u) res → Ev (fun k => laws_FnTables.l0 k c an out i r u) res
  | 0, i, out, i0, hi, ho, hr => by
    refine ev_up ?_
    simp only [vals, List.append_nil] at hr
    simp only [laws_FnTables.l0, pw_wrap (a := 4 * (c.length : Int)) (by omega) (by omega), if_neg (show ¬ i < 4 * (c.length : Int) by omega)]
    exact hr
  | d + 1, i, out, i0, hi, ho, hr => by
    refine ev_up ?_
    have e1 : Int.tdiv i 4 = i / 4 := Int.tdiv_eq_ediv_of_nonneg i0
    have e2 : Int.tmod i 4 = i % 4 := Int.tmod_eq_emod_of_nonneg i0
    simp only [laws_FnTables.l0, pw_wrap (a := 4 * (c.length : Int)) (by omega) (by omega), if_pos (show i < 4 * (c.length : Int) by omega), if_pos (show out.length < 17592186044416 by omega), e1, e2, pw_wrap (a := i / 4) (by omega) (by omega), pw_wrap (a := i / 4 * 4) (by omega) (by omega), pw_wrap (a := i / 4 * 4 + 3) (by omega) (by omega), pw_wrap (a := i / 4 * 4 + 3 - i % 4) (by omega) (by omega), pw_wrap (a := i + 1) (by omega) (by omega)]
    refine tb_l0 l an c hc r u res d (i + 1) (out ++ [i / 4 * 4 + 3 - i % 4]) (by omega) (by omega) (by simp; omega) ?_
    have e : out ++ [i / 4 * 4 + 3 - i % 4] ++ vals turnV d (i + 1) = out ++ vals turnV (d + 1) i := by
      rw [vals, List.append_assoc]
      rfl
    rw [e]
    exact hr
theorem cell_first (c : List Cl) (h : 0 < c.length) : cellAt c (rd_T41 c 0).f0 (rd_T41 c 0).f1 = 0 := by
  cases c with
  | nil => simp at h
  | cons x xs =>
    have e : rd_T41 (x :: xs) 0 = x := rfl
    rw [e, cellAt, cellGo, if_pos ⟨rfl, rfl⟩]
theorem tb_l1 (an : List Int) (ha : an.length ≤ 121) (c : List Cl) (hc : c.length ≤ 4) (ht : tableB c = true) (tn : List Int) (htn : turnB (unfR c) (unfU c) tn = true) (hw : 4 ≤ upSum (negN c) c.length 0 ∧ upSum (negN c) c.length 0 ≤ 2 * c.length + 2) (hs : stratumS (unfR c) (unfU c) = List.replicate (an.filter thrB).length 2) :
    ∀ (suf pre : List Int), an = pre ++ suf → Ev (fun k => laws_FnTables.l1 k c tn (List.replicate (pre.filter thrB).length 2) an (an.length : Int) (pre.length : Int) (unfR c) (unfU c)) true
  | [], pre, e => by
    have hn := (tableB_side ht).1
    have hlen : an.length = pre.length := by rw [e]; simp
    have e2 : an = pre := by simpa using e
    refine ev_up ?_
    simp only [laws_FnTables.l1, if_neg (show ¬ (pre.length : Int) < (an.length : Int) by omega)]
    refine Ev.bind (i_walls c) ?_
    refine Ev.bind (i_isTurn (unf_trans ht) tn) ?_
    rw [htn]
    simp only [if_true]
    refine Ev.bind (i_stratum _ _) ?_
    rw [hs, ← e2]
    have h1 : (an.filter thrB).length ≤ an.length := List.length_filter_le _ _
    refine Ev.bind (laws_sameL _ _ (by simp; omega)) ?_
    rw [decide_eq_true rfl]
    have ew : wallsOf c = upSum (negN c) c.length 0 := if_pos ht
    simp only [if_true, ew, if_pos (show upSum (negN c) c.length 0 ≥ 4 from hw.1), pw_wrap (a := 2 * (c.length : Int)) (by omega) (by omega), pw_wrap (a := 2 * (c.length : Int) + 2) (by omega) (by omega), if_pos hw.2, if_pos (show (0 : Int) < (c.length : Int) by omega)]
    refine Ev.bind (i_CellAt_ev c (by omega) _ _) ?_
    rw [cell_first c (by omega)]
    exact Ev.now _
  | x :: suf, pre, e => by
    have hlen : an.length = pre.length + suf.length + 1 := by rw [e]; simp; omega
    have hrd : rd an (pre.length : Int) = x := by rw [e]; exact rd_mid pre suf x
    have hw1 : wrap64 ((pre.length : Int) + 1) = ((pre ++ [x]).length : Int) := by rw [pw_wrap (by omega) (by omega)]; simp
    have hf : (pre.filter thrB).length ≤ pre.length := List.length_filter_le _ _
    have ih := tb_l1 an ha c hc ht tn htn hw hs suf (pre ++ [x]) (by simp [e])
    refine ev_up ?_
    simp only [laws_FnTables.l1, if_pos (show (pre.length : Int) < (an.length : Int) by omega), if_pos (show (0 : Int) ≤ (pre.length : Int) by omega), hrd, hw1, List.length_replicate, if_pos (show (pre.filter thrB).length < 17592186044416 by omega)]
    by_cases c3 : x = 3
    · subst c3
      have e3 : ((pre ++ [3]).filter thrB).length = (pre.filter thrB).length + 1 := by
        rw [List.filter_append, List.length_append]
        rfl
      rw [e3, List.replicate_succ'] at ih
      simp only [if_true]
      exact ih
    · have e3 : (pre ++ [x]).filter thrB = pre.filter thrB := by
        rw [List.filter_append, List.filter_cons_of_neg (by simpa [thrB] using c3)]
        simp
      rw [e3] at ih
      simp only [if_neg c3]
      exact ih
theorem FnTables : laws_FnTables.Pure := by
  intro l hl _
  apply Ev.rounds
  unfold laws_FnTables.f
  by_cases hlen : (l.length : Int) > 1048576
  · simp only [if_pos hlen]
    exact Ev.now _
  · simp only [if_neg hlen]
    obtain ⟨c, hm, ht, hc, s, hs, a, b, e⟩ := table_shape l (by omega)
    have htr := unf_trans ht
    obtain ⟨hn, hv, _, _⟩ := tableB_side ht
    have hk := List.all_eq_true.1 chk_all s hs
    unfold chkT at hk
    rw [← unfR_sh a b, ← unfU_sh a b, ← e] at hk
    simp only [Bool.and_eq_true, decide_eq_true_eq] at hk
    obtain ⟨⟨⟨⟨k1, k2⟩, k3⟩, k4⟩, k5⟩ := hk
    have el : c.length = s.length := by rw [e, List.length_map]
    have ep : (anglesOf c).Perm (angP s) := by
      unfold anglesOf
      rw [if_pos ht, e]
      exact ang_perm a b s (by rw [← e]; exact hv)
    have ew : upSum (negN c) c.length 0 = upSum (negN s) s.length 0 := by
      rw [el, e]
      exact walls_sh a b s
    have hal := anglesOf_len c
    have hb : ∀ x ∈ anglesOf c, 0 ≤ x ∧ x ≤ 1000 := fun x hx => by
      obtain ⟨p, _, rfl⟩ := List.mem_map.1 (ep.mem_iff.1 hx)
      have := cntL_bd p.1 p.2 s
      unfold cntP
      omega
    have hst : stratumS (unfR c) (unfU c) = List.replicate ((anglesOf c).filter thrB).length 2 := by
      have e1 : anglesS (unfR c) (unfU c) = sortD (lensOf (unfR c) (unfU c)) := by
        unfold anglesS cornersL lensOf
        rw [if_pos htr]
      have hp := sortD_perm (lensOf (unfR c) (unfU c))
      unfold stratumS
      rw [e1, strat_reps _ fun x hx => List.all_eq_true.1 k2 x (hp.mem_iff.1 hx), (hp.filter thrB).length_eq, k3, (ep.filter thrB).length_eq]
    rw [← el] at k1 k4 k5
    refine Ev.bind hm ?_
    refine Ev.bind (i_unfold c) ?_
    refine Ev.bind (i_angles c) ?_
    rw [unfOf, if_pos ht]
    simp only [if_true]
    refine Ev.bind (i_table c) ?_
    rw [ht]
    simp only [if_true]
    refine Ev.bind (i_squares _ _) ?_
    have eq : squaresS (unfR c) (unfU c) = 4 * (c.length : Int) := by
      have h1 : (unfR c).length = 4 * c.length := vals_len _ _ _
      unfold squaresS
      rw [if_pos htr, h1]
      omega
    rw [eq]
    simp only [pw_wrap (a := 4 * (c.length : Int)) (by omega) (by omega), if_true]
    refine Ev.bind (laws_totalL _ (by omega) hb) ?_
    rw [sumI_perm ep, k4]
    simp only [if_true]
    refine Ev.bind (i_half htr) ?_
    rw [(half_iff htr).2 ⟨_, (turnB_iff _ _ _).1 k1⟩]
    refine ev_up ?_
    simp only [laws_FnTables.j0, Bool.not_true, Bool.false_eq_true, if_false]
    refine tb_l0 l _ c (by omega) _ _ _ (4 * c.length) 0 [] (by omega) (by omega) rfl ?_
    exact tb_l1 _ hal c hc ht _ k1 (by rw [ew, ← el] at *; exact k5) hst _ [] rfl

end Go.Proofs.Ytlbhjemkjkdndaa.Pure
