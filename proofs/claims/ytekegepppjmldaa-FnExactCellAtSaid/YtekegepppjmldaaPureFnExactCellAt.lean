/- The program's CellAt returns what the reference's returns, for all arguments: no condition. -/
import Derived.Test.YtekegepppjmldaaSayFnExactCellAt
namespace Go.Proofs.Ytekegepppjmldaa.Pure
open Go.RowKit Go.Proofs.Ytekegepppjmldaa.PFnExactCellAt Go.Proofs.YtekegepppjmldaaW.PrintWords Go.Proofs.YtekegepppjmldaaW.PrintLast
set_option linter.unusedVariables false
set_option linter.unusedSimpArgs false

/-! Small words on lists, read at a place. -/
theorem len_snoc {α : Type} (p : List α) (x : α) : (p ++ [x]).length = p.length + 1 := by simp
theorem wrap_snoc {α : Type} {p s : List α} {x : α} (h : (p ++ x :: s).length ≤ 4611686018427387904) : wrap64 ((p.length : Int) + 1) = ((p ++ [x]).length : Int) := by
  simp at h ⊢
  unfold wrap64
  omega
theorem lt_mid {α : Type} (p s : List α) (x : α) : ((p.length : Nat) : Int) < ((p ++ x :: s).length : Int) := by simp; omega
theorem nlt_end {α : Type} (p : List α) : ¬ ((p.length : Nat) : Int) < ((p ++ []).length : Int) := by simp
theorem rd_mid (p s : List Int) (x : Int) : rd (p ++ x :: s) (p.length : Int) = x := by simp [rd, List.getD]

/-! Cells of a table: the law's, and the program's. -/
theorem rdT_mid (p s : List S54) (x : S54) : rd_T54 (p ++ x :: s) (p.length : Int) = x := by simp [rd_T54, List.getD]
theorem rdL_mid (p s : List S56) (x : S56) : rd_T56 (p ++ x :: s) (p.length : Int) = x := by simp [rd_T56, List.getD]
abbrev Cl := S54
def conv (c : S56) : Cl := ⟨c.f0, c.f1⟩
theorem szCellS_eq (l : List S56) (hl : l.length ≤ 9223372036854775807) : laws_szCellS.f l 1048576 = some (if l.length ≤ 1048576 then 1048576 - (l.length : Int) else -1) := by
  unfold laws_szCellS.f
  have e : wrap64 (1048576 - (l.length : Int)) = 1048576 - (l.length : Int) := by unfold wrap64; omega
  rw [e]
  by_cases h : l.length ≤ 1048576
  · rw [if_neg (by omega), if_pos h]
  · rw [if_pos (by omega), if_neg h]
theorem toCellS_l0 (l : List S56) (hl : l.length ≤ 1048576) : ∀ (suf pre : List S56), l = pre ++ suf →
    Ev (fun k => laws_toCellS.l0 k l (pre.map conv ++ List.replicate suf.length z54) (pre.length : Int)) (l.map conv) := by
  intro suf
  induction suf with
  | nil =>
    intro pre h
    subst h
    refine ⟨1, fun k hk => ?_⟩
    obtain ⟨k, rfl⟩ : ∃ m, k = m + 1 := ⟨k - 1, by omega⟩
    simp only [laws_toCellS.l0]
    rw [if_neg (nlt_end pre)]
    simp
  | cons c suf ih =>
    intro pre h
    have := ih (pre ++ [c]) (by simp [h])
    subst h
    refine Ev.step (fun k => ?_) this
    simp only [laws_toCellS.l0]
    rw [if_pos (lt_mid pre suf c), if_pos (Int.natCast_nonneg _), rdL_mid]
    simp only [laws_toCell.f, Option.bind_some]
    rw [if_pos (by simp; omega), wrap_snoc (s := suf) (by simp at hl ⊢; omega)]
    congr 1
    simp [List.replicate_succ, conv]
theorem toCellS_ev (l : List S56) (hl : l.length ≤ 1048576) : Ev (fun k => laws_toCellS.f k l) (l.map conv) := by
  have := toCellS_l0 l hl l [] rfl
  refine Ev.congr (fun k => ?_) this
  unfold laws_toCellS.f
  rw [if_pos (by omega), if_pos (by omega)]
  simp
theorem eqCell_eq (a b c d : Int) : laws_eqCell.f a b c d = some (decide (a = c ∧ b = d)) := by
  unfold laws_eqCell.f
  by_cases h : a = c
  · by_cases h2 : b = d
    · simp [h, h2]
    · simp [h, h2]
  · simp [h]
theorem eqCellS_l0 (l : List Cl) (hl : l.length ≤ 1048576) : ∀ (suf pre : List Cl), l = pre ++ suf → Ev (fun k => laws_eqCellS.l0 k l l (pre.length : Int)) true := by
  intro suf
  induction suf with
  | nil =>
    intro pre h
    subst h
    refine ⟨1, fun k hk => ?_⟩
    obtain ⟨k, rfl⟩ : ∃ m, k = m + 1 := ⟨k - 1, by omega⟩
    simp only [laws_eqCellS.l0]
    rw [if_neg (nlt_end pre)]
  | cons c suf ih =>
    intro pre h
    have := ih (pre ++ [c]) (by simp [h])
    subst h
    refine Ev.step (fun k => ?_) this
    simp only [laws_eqCellS.l0]
    rw [if_pos (lt_mid pre suf c), if_pos (Int.natCast_nonneg _), if_pos (lt_mid pre suf c), rdT_mid, eqCell_eq]
    simp only [Option.bind_some, and_self, decide_true, if_true]
    rw [wrap_snoc (s := suf) (by simp at hl ⊢; omega)]
theorem eqCellS_ev (l : List Cl) (hl : l.length ≤ 1048576) : Ev (fun k => laws_eqCellS.f k l l) true := by
  have := eqCellS_l0 l hl l [] rfl
  refine Ev.congr (fun k => ?_) this
  unfold laws_eqCellS.f
  rw [if_pos rfl]
  simp
/-- The place of the first cell with these coordinates, or -1. -/
def cellGo (x y : Int) : List Cl → Int → Int
  | [], _ => -1
  | c :: cs, i => if c.f0 = x ∧ c.f1 = y then i else cellGo x y cs (i + 1)
def cellAt (l : List Cl) (x y : Int) : Int := cellGo x y l 0
theorem spec_CellAt_l0 (l : List Cl) (hl : l.length ≤ 1048576) (x y : Int) : ∀ (suf pre : List Cl), l = pre ++ suf →
    Ev (fun k => spec_CellAt.l0 k x y l (l.length : Int) (pre.length : Int)) (cellGo x y suf pre.length) := by
  intro suf
  induction suf with
  | nil =>
    intro pre h
    subst h
    refine ⟨1, fun k hk => ?_⟩
    obtain ⟨k, rfl⟩ : ∃ m, k = m + 1 := ⟨k - 1, by omega⟩
    simp only [spec_CellAt.l0]
    rw [if_neg (nlt_end pre)]
    rfl
  | cons c suf ih =>
    intro pre h
    have := ih (pre ++ [c]) (by simp [h])
    subst h
    by_cases hc : c.f0 = x ∧ c.f1 = y
    · refine Ev.step (f := fun _ => some ((pre.length : Nat) : Int)) (fun k => ?_) (by rw [cellGo, if_pos hc]; exact Ev.now _)
      simp only [spec_CellAt.l0]
      rw [if_pos (lt_mid pre suf c), if_pos (Int.natCast_nonneg _), if_pos (lt_mid pre suf c), rdT_mid, if_pos hc.1, if_pos hc.2]
    · rw [cellGo, if_neg hc]
      rw [show ((pre ++ [c]).length : Int) = (pre.length : Int) + 1 by simp] at this
      refine Ev.step (fun k => ?_) this
      simp only [spec_CellAt.l0]
      rw [if_pos (lt_mid pre suf c), if_pos (Int.natCast_nonneg _), if_pos (lt_mid pre suf c), rdT_mid, wrap_snoc (x := c) (s := suf) (by simp at hl ⊢; omega)]
      by_cases h1 : c.f0 = x
      · rw [if_pos h1, if_neg (fun h2 => hc ⟨h1, h2⟩)]; simp
      · rw [if_neg h1]; simp
theorem spec_CellAt_ev (l : List Cl) (hl : l.length ≤ 1048576) (x y : Int) : Ev (fun k => spec_CellAt.f k l x y) (cellAt l x y) := spec_CellAt_l0 l hl x y l [] rfl
theorem impl_Index_l0 (l : List Cl) (hl : l.length ≤ 1048576) (x y : Int) : ∀ (suf pre : List Cl), l = pre ++ suf →
    Ev (fun k => impl_Cell.l0 k l (l.length : Int) (pre.length : Int) x y) (cellGo x y suf pre.length) := by
  intro suf
  induction suf with
  | nil =>
    intro pre h
    subst h
    refine ⟨1, fun k hk => ?_⟩
    obtain ⟨k, rfl⟩ : ∃ m, k = m + 1 := ⟨k - 1, by omega⟩
    simp only [impl_Cell.l0]
    rw [if_neg (nlt_end pre)]
    rfl
  | cons c suf ih =>
    intro pre h
    have := ih (pre ++ [c]) (by simp [h])
    subst h
    by_cases hc : c.f0 = x ∧ c.f1 = y
    · refine Ev.step (f := fun _ => some ((pre.length : Nat) : Int)) (fun k => ?_) (by rw [cellGo, if_pos hc]; exact Ev.now _)
      simp only [impl_Cell.l0]
      rw [if_pos (lt_mid pre suf c), if_pos (Int.natCast_nonneg _), if_pos (lt_mid pre suf c), rdT_mid, hc.1, hc.2]
      simp
    · rw [cellGo, if_neg hc]
      rw [show ((pre ++ [c]).length : Int) = (pre.length : Int) + 1 by simp] at this
      refine Ev.step (fun k => ?_) this
      simp only [impl_Cell.l0]
      rw [if_pos (lt_mid pre suf c), if_pos (Int.natCast_nonneg _), if_pos (lt_mid pre suf c), rdT_mid, wrap_snoc (x := c) (s := suf) (by simp at hl ⊢; omega)]
      rw [if_neg (by simp; exact fun h1 h2 => hc ⟨h1.symm, h2.symm⟩)]
      simp
theorem impl_CellAt_ev (l : List Cl) (hl : l.length ≤ 1048576) (x y : Int) : Ev (fun k => impl_CellAt.f k l x y) (cellAt l x y) := by
  refine Ev.bind (impl_Index_l0 l hl x y l [] rfl) ?_
  exact Ev.now _

theorem FnExactCellAt : laws_FnExactCellAt.Pure := by
  intro l x y hm _ _ _
  apply Ev.rounds
  unfold laws_FnExactCellAt.f
  by_cases hl : l.length ≤ 1048576
  · simp only [szCellS_eq l hm, if_pos hl, Option.bind_some]
    have hc : (l.map conv).length ≤ 1048576 := by simpa using hl
    refine Ev.congr (f := fun k => _) (fun k => if_neg (by omega)) ?_
    refine Ev.bind (toCellS_ev l hl) ?_
    refine Ev.bind (spec_CellAt_ev _ hc x y) ?_
    refine Ev.bind (toCellS_ev l hl) ?_
    refine Ev.bind (impl_CellAt_ev _ hc x y) ?_
    simp only [if_true]
    refine Ev.bind (toCellS_ev l hl) ?_
    refine Ev.bind (eqCellS_ev _ hc) ?_
    simp only [if_true]
    exact Ev.now _
  · simp only [szCellS_eq l hm, if_neg hl, Option.bind_some]
    exact Ev.now _

end Go.Proofs.Ytekegepppjmldaa.Pure
