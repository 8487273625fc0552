/- How an argument that reads as data is handed to a printed walk: whole numbers, slices, structs of one-cell fields. Of whatever program. -/
import Derived.ProofKit
import Derived.WalkKit
import Derived.Deep.Slices
import Derived.Deep.Strs
import Derived.Lib.SmallJoins
import Derived.OpenShut
import Derived.Test.YtmhjcbcjpidegaaWWords
namespace Go.Proofs.Ytmhjcbcjpidegaa.Open
open Go.RowKit Go.ChangeShapes Go.WideShapes Go.Deep Go.Proofs.YtmhjcbcjpidegaaW.PrintWords
section
variable {H : Type} {enc : TypeId × Value → H} {P : Program} {w : World} {base : Nat} {spare : Nat → Bool} {held : Bool}

/-- Cells that read at a type are some value of a kind, of which Q holds. -/
def Opens {α : Type} (enc : TypeId × Value → H) (P : Program) (w : World) (base : Nat) (spare : Nat → Bool) (held : Bool) (t : TypeId) (d : Kd α) (Q : α → Prop) : Prop :=
  ∀ fuel cs x, DataW.trod enc P w base spare held fuel t cs = some x → ∃ v, d.K w v cs ∧ Q v

def okInt (k : IntKind) (v : Int) : Prop := (Lit.int k v).wf = true

theorem opens_int {t : TypeId} {k : IntKind} (ht : P.underlying t = some (.int k)) : Opens enc P w base spare held t (Kd.int k) (okInt k) := by
  intro fuel cs x h
  obtain ⟨m, rfl, _, hw⟩ := DataW.trod_int ht h
  exact ⟨m, rfl, hw⟩

theorem list_of {α : Type} (p : Nat → α → Prop) : ∀ n : Nat, (∀ i, i < n → ∃ v, p i v) → ∃ l : List α, l.length = n ∧ ∀ j v, l[j]? = some v → p j v := by
  intro n
  induction n with
  | zero => exact fun _ => ⟨[], rfl, fun j v h => by simp at h⟩
  | succ n ih =>
    intro h
    obtain ⟨l, hl, hp⟩ := ih (fun i hi => h i (by omega))
    obtain ⟨v, hv⟩ := h n (by omega)
    refine ⟨l ++ [v], by simp [hl], fun j u hu => ?_⟩
    by_cases hj : j < l.length
    · rw [List.getElem?_append_left hj] at hu
      exact hp j u hu
    · have hj2 : j < (l ++ [v]).length := (List.getElem?_eq_some_iff.1 hu).1
      have hj3 : j = l.length := by simp at hj2; omega
      subst hj3
      simp at hu
      subst hu
      rw [hl]
      exact hv

theorem opens_row {α : Type} {t e : TypeId} {d : Kd α} {Q : α → Prop} (ht : P.underlying t = some (.slice e)) (hs : P.cellsOf e = d.sz) (he : Opens enc P w base spare held e d Q)
    {fuel : Nat} {cs : List Value} {x : DataW H × List MemPlace} (h : DataW.trod enc P w base spare held fuel t cs = some x) :
    ∃ A c l, cs = [.slice A (l : List α).length c] ∧ l.length ≤ c ∧ d.C w A l.length l ∧ ∀ v ∈ l, Q v := by
  rcases open_slice ht h with ⟨rfl, _⟩ | ⟨a, len, cap, m, n, D, Pl, rfl, hb, hl, hm, hmm, _, hel⟩
  · exact ⟨none, 0, [], rfl, Nat.le_refl _, Kd.C_nil d w, fun v hv => by simp at hv⟩
  · have hle : len ≤ m := by rw [hmm]; split <;> omega
    obtain ⟨l, hll, hp⟩ := list_of (fun i (v : α) => (∃ c, c.length = d.sz ∧ d.K w v c ∧ ∀ j u, c[j]? = some u → w.cell? (a.add (i * d.sz + j)) = some u) ∧ Q v) len (by
      intro i hi
      obtain ⟨cs', hcs, htr⟩ := hel i (by omega)
      obtain ⟨v, hk, hq⟩ := he _ _ _ htr
      refine ⟨v, ⟨cs', d.K_len hk, hk, fun j u hu => ?_⟩, hq⟩
      have hc := (World.cells?_some hcs).2.2
      have hj : j < P.cellsOf e := by
        have := (List.getElem?_eq_some_iff.1 hu).1
        rw [d.K_len hk] at this
        omega
      have := hc j hj
      rw [hu] at this
      rw [← hs]
      rw [← Addr.add_add]
      exact this)
    refine ⟨some a, cap, l, by rw [hll], by omega, ⟨rfl, ?_, fun hn => ⟨a, rfl, fun j p hj => (hp j p hj).1⟩⟩, fun v hv => ?_⟩
    · unfold maxLen at hm; omega
    · obtain ⟨j, hj⟩ := List.getElem?_of_mem hv
      exact (hp j v hj).2

theorem opens_slice {α : Type} {t e : TypeId} {d : Kd α} {Q : α → Prop} (ht : P.underlying t = some (.slice e)) (hs : P.cellsOf e = d.sz) (he : Opens enc P w base spare held e d Q) :
    Opens enc P w base spare held t (Kd.slice e d) (fun l => ∀ v ∈ l, Q v) := by
  intro fuel cs x h
  obtain ⟨A, c, l, h1, h2, h3, h4⟩ := opens_row ht hs he h
  exact ⟨l, ⟨A, c, h1, h2, h3⟩, h4⟩

/-- A slice as an argument. -/
theorem arg_row {α : Type} {t e : TypeId} {d : Kd α} {Q : α → Prop} {a : Option Addr} {len cap : Nat} {x : DataW H} {p : List MemPlace} (ht : P.underlying t = some (.slice e)) (hs : P.cellsOf e = d.sz) (he : Opens enc P w base spare held e d Q)
    (h : DataW.Trod enc P w base spare held t (.slice a len cap) x p) : ∃ l : List α, len = l.length ∧ l.length ≤ cap ∧ d.C w a l.length l ∧ ∀ v ∈ l, Q v := by
  obtain ⟨fuel, hf⟩ := h
  obtain ⟨A, c, l, h1, h2, h3, h4⟩ := opens_row ht hs he hf
  simp [Value.cells] at h1
  obtain ⟨rfl, rfl, rfl⟩ := h1
  exact ⟨l, rfl, h2, h3, h4⟩

/-- A slice in a field of an argument. -/
theorem field_row {α : Type} {t e : TypeId} {d : Kd α} {Q : α → Prop} {v : Value} {y : DataW H × List MemPlace} {fuel : Nat} (ht : P.underlying t = some (.slice e)) (hs : P.cellsOf e = d.sz) (he : Opens enc P w base spare held e d Q)
    (h : DataW.trod enc P w base spare held fuel t [v] = some y) : ∃ A c, ∃ l : List α, v = .slice A l.length c ∧ l.length ≤ c ∧ d.C w A l.length l ∧ ∀ v ∈ l, Q v := by
  obtain ⟨A, c, l, h1, h2, h3, h4⟩ := opens_row ht hs he h
  exact ⟨A, c, l, List.singleton_inj.1 h1, h2, h3, h4⟩
theorem field_int {t : TypeId} {k : IntKind} {v : Value} {y : DataW H × List MemPlace} {fuel : Nat} (ht : P.underlying t = some (.int k)) (h : DataW.trod enc P w base spare held fuel t [v] = some y) : ∃ m, v = .int k m ∧ (Lit.int k m).wf = true := by
  obtain ⟨m, h1, _, hw⟩ := DataW.trod_int ht h
  exact ⟨m, List.singleton_inj.1 h1, hw⟩

/-- An element that is a struct of two, or four, one-cell fields. -/
theorem el2 {t : TypeId} {f0 f1 : Field} {fuel : Nat} {cs : List Value} {x : DataW H × List MemPlace} (hs : P.underlying t = some (.struct #[f0, f1])) (hone : oneCellFields P #[f0, f1] = true) (hC : P.cellsOf t = 2)
    (h : DataW.trod enc P w base spare held fuel t cs = some x) : ∃ v0 v1 y0 y1 n, cs = [v0, v1] ∧ DataW.trod enc P w base spare held n f0.type [v0] = some y0 ∧ DataW.trod enc P w base spare held n f1.type [v1] = some y1 := by
  obtain ⟨y0, y1, n, _, hl, h0, h1⟩ := trod_struct2 hs h
  rw [hC] at hl
  obtain ⟨o0, k0⟩ := hone_of hone 0 f0 rfl
  obtain ⟨o1, k1⟩ := hone_of hone 1 f1 rfl
  match cs, hl with
  | [c0, c1], _ => exact ⟨c0, c1, y0, y1, n, rfl, by simpa [o0, k0] using h0, by simpa [o1, k1] using h1⟩
end
end Go.Proofs.Ytmhjcbcjpidegaa.Open
