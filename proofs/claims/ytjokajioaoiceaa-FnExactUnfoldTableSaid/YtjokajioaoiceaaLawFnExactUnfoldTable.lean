/- The row of the law FnExactUnfoldTable, out of its pure statement and the walk. -/
import Derived.Test.YtjokajioaoiceaaRows
import Derived.Test.YtjokajioaoiceaaOpen
import Derived.Test.YtjokajioaoiceaaPureFnExactUnfoldTable
import Derived.WalkKit
import Derived.ProofKit
import Derived.OpenShut
import Derived.ShutString
import Derived.ChangeOld
import Derived.Below
import Derived.SizedLaws
import Derived.Carry
import Derived.Lib.SmallJoins
namespace Go.Proofs.Ytjokajioaoiceaa.fnExactUnfoldTable
open Go.ChangeShapes Go.WideShapes Go.ChangeAt Go.RowKit Go.Joins Go.Proofs.Ytjokajioaoiceaa.Open Go.Proofs.YtjokajioaoiceaaW.PrintWords Go.Proofs.Ytjokajioaoiceaa.S
open Go.ChangeMaps (open_string shut_string)
set_option linter.unusedVariables false
theorem own : ownKnob Try.prog.godebug = none := by kernel_rfl
theorem laidOut : laidOutB Try.prog = true := by kernel_rfl
set_option maxRecDepth 100000 in
theorem lifted (os : Os) (started : os.Started) (H : Type) (enc : TypeId × Value → H) :
    ReturnsInHanded {} Try.checked os 6 .any (Rows.fnExactUnfoldTableSpec.pre6 enc Try.prog Try.f6 Rows.fnExactUnfoldTableRow.domain false) (Rows.fnExactUnfoldTableSpec.post enc Try.prog Try.f6 false true false false) := by
  refine returnsInHanded_of_change_sized (C := Try.checked) own started (by kernel_rfl) Try.func6
    (ChangeSpec.witness6 (enc := enc) (C := Try.checked) false ⟨#[], #[.slice none 0 0], []⟩ 8 (by kernel_rfl) (by kernel_rfl) (by kernel_rfl) (by kernel_rfl)) ?_
  intro W base args ds gs before hval0 hW hcnd hsz0 _
  have hsz : (DataW.weightsEach Try.prog (Try.f6.params.toList ++ Rows.fnExactUnfoldTableSpec.plain.varTypes Try.prog) (ds ++ gs)).all (· ≤ reachBytes) = true := hsz0
  have hval : ∀ (j : Nat) t v, Try.f6.params[j]? = some t → args[j]? = some v → Value.okWide Try.prog W .any base t v := hval0
  have hW' := hW
  obtain ⟨p, q, hA0, hV, rfl, hfz, hnd⟩ := hW
  have hA : DataW.TrodAll enc Try.prog W 0 (fun _ => true) true Try.f6.params.toList args.toList ds p := hA0
  rw [Try.params6] at hA hval hsz
  obtain ⟨v0, vs0, d0, ds0, p0, q0, hargs, rfl, rfl, h0, r0⟩ := trodAll_cons hA
  obtain ⟨rfl, rfl, rfl⟩ := trodAll_nil r0
  obtain rfl : args = #[v0] := by cases args; simp_all
  obtain ⟨rfl, rfl⟩ := trodVars_none hV
  have k0 := h0
  have lt0 : ∀ x ∈ p0, x.block < W.heap.size := by obtain ⟨m, hm⟩ := k0; exact DataW.trod_lt m _ _ _ hm
  have o68 : Opens enc Try.prog W 0 (fun _ => true) true 68 k68 (fun x => (Lit.int .i64 x.f0).wf = true ∧ (Lit.int .i64 x.f1).wf = true) := by
    intro fuel cs x h
    obtain ⟨v0, v1, y0, y1, n, rfl, g0, g1⟩ := el2 Try.underlying68 (by kernel_rfl) (by kernel_rfl) h
    obtain ⟨m0, rfl, e0⟩ := field_int Try.underlying3 g0
    obtain ⟨m1, rfl, e1⟩ := field_int Try.underlying3 g1
    exact ⟨⟨m0, m1⟩, k68_mk W ⟨m0, m1⟩, e0, e1⟩
  obtain ⟨A0, len0, c0, rfl⟩ := okWide_slice Try.underlying22 (hval 0 22 v0 rfl rfl)
  obtain ⟨l0, rfl, hc0, hr0, w0⟩ := arg_row (d := k68) Try.underlying22 (by kernel_rfl) o68 k0
  clear hA0 hval0 hsz0 hsz
  obtain ⟨k, hP⟩ := Pure.FnExactUnfoldTable l0 hr0.2.1 w0
  refine (laws_FnExactUnfoldTable.calls k A0 c0 l0 true W hr0 hc0 rfl hP).mono fun e W' ⟨he, bel0⟩ => ?_
  have bel := bel0
  subst he
  exact ⟨_, rfl, _, _, _, [], _, [], hW', trodAll_mk1 (shut_bool Try.underlying4 _), (trodAll_cons_mk (Below.trod laidOut (by kernel_rfl) (of_decide_eq_true (by kernel_rfl)) k0 bel lt0) trodAll_mk0), rfl, bel.frame _, fun h => by cases h⟩
theorem over : Rows.fnExactUnfoldTableRow.holds Try.pinned (OpenSpec.ofChange Rows.fnExactUnfoldTableSpec) :=
  OpenClaim.holds_of_wide 6 Try.f6 rfl rfl rfl rfl rfl rfl rfl ⟨rfl, rfl, rfl, rfl, rfl⟩ rfl rfl rfl rfl rfl (by kernel_rfl) Try.func6 (by kernel_rfl)
    (of_decide_eq_true (by kernel_rfl)) (by unfold Func.isWrapper; first | (rw [if_pos (by decide +kernel)]; kernel_rfl) | (rw [if_neg (by decide +kernel)]; exact ⟨rfl, rfl⟩))
    (fun os started H enc _ => lifted os started H enc)
theorem proved : Rows.FnExactUnfoldTableSaid := over
#print axioms proved
end Go.Proofs.Ytjokajioaoiceaa.fnExactUnfoldTable
namespace Go.Proofs.Ytjokajioaoiceaa
theorem fnExactUnfoldTable_holds : Rows.FnExactUnfoldTableSaid := fnExactUnfoldTable.proved
end Go.Proofs.Ytjokajioaoiceaa
