-- PRINTED by print.py (a twelfth state) out of the translation. Not trusted: Lean checks it.
import Derived.Test.YthhdgeafdnikcaaGreatDoorS0
import Derived.Test.YthhdgeafdnikcaaGreatDoorS2
import Derived.Test.YthhdgeafdnikcaaGreatDoorS3
import Derived.Test.YthhdgeafdnikcaaGreatDoorS4
import Derived.Test.YthhdgeafdnikcaaGreatDoorS5
namespace Go.Proofs.YthhdgeafdnikcaaGreatDoor.S
open Go.RowKit Go.Proofs.YthhdgeafdnikcaaGreatDoorW.PrintWords Go.Proofs.YthhdgeafdnikcaaGreatDoorW.PrintLast Go.Proofs.YthhdgeafdnikcaaGreatDoorW.PrintMore
attribute [local go_sem] max2_int min2_int max_two min_two max_three min_three max_four min_four   -- for this text's walks alone
set_option linter.unusedVariables false
set_option linter.unusedSimpArgs false

/-! ### impl_SurfaceLines: function 7 -/
def impl_SurfaceLines.f (k : Nat) (l0_0 : List Int) (l0_1 : List Int) : Option (List ByteArray) := (impl_SurfaceOk.f k l0_0 l0_1).bind fun t496 => (if t496 = true then ((impl_CountSquares.f k l0_0 l0_1).bind fun t497 => ((impl_FormatInt.f t497).bind fun t498 => (if 8 + t498.size ≤ 9223372036854775807 then (if ((⟨#[115, 113, 117, 97, 114, 101, 115, 32]⟩ : ByteArray) ++ t498).size + 1 ≤ 9223372036854775807 then ((impl_FormatSurface.f k l0_0 l0_1).bind fun t499 => (if (((⟨#[115, 113, 117, 97, 114, 101, 115, 32]⟩ : ByteArray) ++ t498) ++ (⟨#[32]⟩ : ByteArray)).size + t499.size ≤ 9223372036854775807 then ((impl_AnglesOf.f k l0_0 l0_1).bind fun t500 => ((impl_FormatList.f k t500).bind fun t503 => (if 7 + t503.size ≤ 9223372036854775807 then ((impl_GenusOf.f k l0_0 l0_1).bind fun t504 => ((impl_FormatInt.f t504).bind fun t505 => (if 6 + t505.size ≤ 9223372036854775807 then (if ((⟨#[103, 101, 110, 117, 115, 32]⟩ : ByteArray) ++ t505).size + 9 ≤ 9223372036854775807 then ((impl_StratumOf.f k l0_0 l0_1).bind fun t506 => ((impl_FormatList.f k t506).bind fun t509 => (if (((⟨#[103, 101, 110, 117, 115, 32]⟩ : ByteArray) ++ t505) ++ (⟨#[32, 115, 116, 114, 97, 116, 117, 109, 32]⟩ : ByteArray)).size + t509.size ≤ 9223372036854775807 then ((impl_CountSymmetries.f k l0_0 l0_1).bind fun t510 => ((impl_FormatInt.f t510).bind fun t511 => (if 11 + t511.size ≤ 9223372036854775807 then (some (([(((⟨#[115, 113, 117, 97, 114, 101, 115, 32]⟩ : ByteArray) ++ t498) ++ (⟨#[32]⟩ : ByteArray)) ++ t499, (⟨#[97, 110, 103, 108, 101, 115, 32]⟩ : ByteArray) ++ t503, (((⟨#[103, 101, 110, 117, 115, 32]⟩ : ByteArray) ++ t505) ++ (⟨#[32, 115, 116, 114, 97, 116, 117, 109, 32]⟩ : ByteArray)) ++ t509, (⟨#[115, 121, 109, 109, 101, 116, 114, 105, 101, 115, 32]⟩ : ByteArray) ++ t511] : List ByteArray))) else (none)))) else (none)))) else (none)) else (none)))) else (none)))) else (none))) else (none)) else (none)))) else (some ([] : List ByteArray)))
def impl_SurfaceLines.T3 : Bool × List (List Nat × List Nat) := (true, [([], []), ([0], [0]), ([1, 1], [1]), ([2], [2]), ([3], [3]), ([], []), ([5, 2], [5]), ([4, 6], [4, 6]), ([], []), ([8, 6], [8]), ([9, 9], [9]), ([10], [10]), ([], []), ([12, 10], [12]), ([13, 13], [13]), ([14], [14]), ([15], [15]), ([], []), ([17, 14], [17]), ([18, 18], [18]), ([16, 19], [16, 19]), ([], []), ([21, 19], [21]), ([22, 22], [22]), ([23], [23]), ([7, 11, 20, 24], [7, 11, 20, 24]), ([25, 23, 0, 1, 2, 3, 4, 5, 6, 7, 8, 9, 10, 11, 12, 13, 14, 15, 16, 17, 18, 19, 20, 21, 22, 23, 24, 25], [25])])
def impl_SurfaceLines.B3 : List Nat := [0, 1, 3, 7, 15, 0, 39, 127, 0, 359, 871, 1895, 0, 5991, 14183, 30567, 63335, 0, 161639, 423783, 1046375, 0, 3045223, 7239527, 15628135, 33554431, 67108863]
theorem impl_SurfaceLines.tab3 : rtab .any (opsOf Tryz.f7 3) = impl_SurfaceLines.T3 := by kernel_rfl
theorem impl_SurfaceLines.bits3 : waitsOk impl_SurfaceLines.T3.2 impl_SurfaceLines.B3 = true := by kernel_rfl
set_option maxHeartbeats 8000000 in
set_option maxRecDepth 100000 in
theorem impl_SurfaceLines.calls (k : Nat) (A0_0 : Option Addr) (c0_0 : Nat) (l0_0 : List Int) (A0_1 : Option Addr) (c0_1 : Nat) (l0_1 : List Int) (r : List ByteArray) (w : World) (hr0_0 : Kd.C (Kd.int .i64) w A0_0 l0_0.length l0_0) (hc0_0 : l0_0.length ≤ c0_0) (hr0_1 : Kd.C (Kd.int .i64) w A0_1 l0_1.length l0_1) (hc0_1 : l0_1.length ≤ c0_1) (htab_ : PowTab w) (h : impl_SurfaceLines.f k l0_0 l0_1 = some r) :
  Calls Tryz.prog 7 #[.agg #[.slice A0_0 l0_0.length c0_0, .slice A0_1 l0_1.length c0_1]] w fun e w' => ∃ v0_ : Value, e = .returned (v0_) ∧ Kd.R Kd.string 9 w' w.heap.size (fun _ => True) v0_ r ∧ Below w.heap.size w w' := by
 have hu25 := Tryz.underlying25
 have HR0_0 := Aside0.mk hr0_0
 have HC0_0 := Aside0.mk hc0_0
 clear hr0_0 hc0_0
 have HR0_1 := Aside0.mk hr0_1
 have HC0_1 := Aside0.mk hc0_1
 clear hr0_1 hc0_1
 have HB := Aside0.mk (Below.refl w.heap.size w)
 have H : ((impl_SurfaceOk.f k l0_0 l0_1).bind fun t496 => (if t496 = true then ((impl_CountSquares.f k l0_0 l0_1).bind fun t497 => ((impl_FormatInt.f t497).bind fun t498 => (if 8 + t498.size ≤ 9223372036854775807 then (if ((⟨#[115, 113, 117, 97, 114, 101, 115, 32]⟩ : ByteArray) ++ t498).size + 1 ≤ 9223372036854775807 then ((impl_FormatSurface.f k l0_0 l0_1).bind fun t499 => (if (((⟨#[115, 113, 117, 97, 114, 101, 115, 32]⟩ : ByteArray) ++ t498) ++ (⟨#[32]⟩ : ByteArray)).size + t499.size ≤ 9223372036854775807 then ((impl_AnglesOf.f k l0_0 l0_1).bind fun t500 => ((impl_FormatList.f k t500).bind fun t503 => (if 7 + t503.size ≤ 9223372036854775807 then ((impl_GenusOf.f k l0_0 l0_1).bind fun t504 => ((impl_FormatInt.f t504).bind fun t505 => (if 6 + t505.size ≤ 9223372036854775807 then (if ((⟨#[103, 101, 110, 117, 115, 32]⟩ : ByteArray) ++ t505).size + 9 ≤ 9223372036854775807 then ((impl_StratumOf.f k l0_0 l0_1).bind fun t506 => ((impl_FormatList.f k t506).bind fun t509 => (if (((⟨#[103, 101, 110, 117, 115, 32]⟩ : ByteArray) ++ t505) ++ (⟨#[32, 115, 116, 114, 97, 116, 117, 109, 32]⟩ : ByteArray)).size + t509.size ≤ 9223372036854775807 then ((impl_CountSymmetries.f k l0_0 l0_1).bind fun t510 => ((impl_FormatInt.f t510).bind fun t511 => (if 11 + t511.size ≤ 9223372036854775807 then (some (([(((⟨#[115, 113, 117, 97, 114, 101, 115, 32]⟩ : ByteArray) ++ t498) ++ (⟨#[32]⟩ : ByteArray)) ++ t499, (⟨#[97, 110, 103, 108, 101, 115, 32]⟩ : ByteArray) ++ t503, (((⟨#[103, 101, 110, 117, 115, 32]⟩ : ByteArray) ++ t505) ++ (⟨#[32, 115, 116, 114, 97, 116, 117, 109, 32]⟩ : ByteArray)) ++ t509, (⟨#[115, 121, 109, 109, 101, 116, 114, 105, 101, 115, 32]⟩ : ByteArray) ++ t511] : List ByteArray))) else (none)))) else (none)))) else (none)) else (none)))) else (none)))) else (none))) else (none)) else (none)))) else (some ([] : List ByteArray)))) = some r := h
 clear h
 have HTAB := Aside0.mk htab_
 clear htab_
 replace H := Option.bind_eq_some_iff.mp H
 obtain ⟨t496, A20, H⟩ := H
 replace H : (if t496 = true then ((impl_CountSquares.f k l0_0 l0_1).bind fun t497 => ((impl_FormatInt.f t497).bind fun t498 => (if 8 + t498.size ≤ 9223372036854775807 then (if ((⟨#[115, 113, 117, 97, 114, 101, 115, 32]⟩ : ByteArray) ++ t498).size + 1 ≤ 9223372036854775807 then ((impl_FormatSurface.f k l0_0 l0_1).bind fun t499 => (if (((⟨#[115, 113, 117, 97, 114, 101, 115, 32]⟩ : ByteArray) ++ t498) ++ (⟨#[32]⟩ : ByteArray)).size + t499.size ≤ 9223372036854775807 then ((impl_AnglesOf.f k l0_0 l0_1).bind fun t500 => ((impl_FormatList.f k t500).bind fun t503 => (if 7 + t503.size ≤ 9223372036854775807 then ((impl_GenusOf.f k l0_0 l0_1).bind fun t504 => ((impl_FormatInt.f t504).bind fun t505 => (if 6 + t505.size ≤ 9223372036854775807 then (if ((⟨#[103, 101, 110, 117, 115, 32]⟩ : ByteArray) ++ t505).size + 9 ≤ 9223372036854775807 then ((impl_StratumOf.f k l0_0 l0_1).bind fun t506 => ((impl_FormatList.f k t506).bind fun t509 => (if (((⟨#[103, 101, 110, 117, 115, 32]⟩ : ByteArray) ++ t505) ++ (⟨#[32, 115, 116, 114, 97, 116, 117, 109, 32]⟩ : ByteArray)).size + t509.size ≤ 9223372036854775807 then ((impl_CountSymmetries.f k l0_0 l0_1).bind fun t510 => ((impl_FormatInt.f t510).bind fun t511 => (if 11 + t511.size ≤ 9223372036854775807 then (some (([(((⟨#[115, 113, 117, 97, 114, 101, 115, 32]⟩ : ByteArray) ++ t498) ++ (⟨#[32]⟩ : ByteArray)) ++ t499, (⟨#[97, 110, 103, 108, 101, 115, 32]⟩ : ByteArray) ++ t503, (((⟨#[103, 101, 110, 117, 115, 32]⟩ : ByteArray) ++ t505) ++ (⟨#[32, 115, 116, 114, 97, 116, 117, 109, 32]⟩ : ByteArray)) ++ t509, (⟨#[115, 121, 109, 109, 101, 116, 114, 105, 101, 115, 32]⟩ : ByteArray) ++ t511] : List ByteArray))) else (none)))) else (none)))) else (none)) else (none)))) else (none)))) else (none))) else (none)) else (none)))) else (some ([] : List ByteArray))) = some r := H
 have A2 := Aside0.mk A20
 clear A20
 by_cases c3 : t496 = true
 {
 subst c3
 have H1 : ((impl_CountSquares.f k l0_0 l0_1).bind fun t497 => ((impl_FormatInt.f t497).bind fun t498 => (if 8 + t498.size ≤ 9223372036854775807 then (if ((⟨#[115, 113, 117, 97, 114, 101, 115, 32]⟩ : ByteArray) ++ t498).size + 1 ≤ 9223372036854775807 then ((impl_FormatSurface.f k l0_0 l0_1).bind fun t499 => (if (((⟨#[115, 113, 117, 97, 114, 101, 115, 32]⟩ : ByteArray) ++ t498) ++ (⟨#[32]⟩ : ByteArray)).size + t499.size ≤ 9223372036854775807 then ((impl_AnglesOf.f k l0_0 l0_1).bind fun t500 => ((impl_FormatList.f k t500).bind fun t503 => (if 7 + t503.size ≤ 9223372036854775807 then ((impl_GenusOf.f k l0_0 l0_1).bind fun t504 => ((impl_FormatInt.f t504).bind fun t505 => (if 6 + t505.size ≤ 9223372036854775807 then (if ((⟨#[103, 101, 110, 117, 115, 32]⟩ : ByteArray) ++ t505).size + 9 ≤ 9223372036854775807 then ((impl_StratumOf.f k l0_0 l0_1).bind fun t506 => ((impl_FormatList.f k t506).bind fun t509 => (if (((⟨#[103, 101, 110, 117, 115, 32]⟩ : ByteArray) ++ t505) ++ (⟨#[32, 115, 116, 114, 97, 116, 117, 109, 32]⟩ : ByteArray)).size + t509.size ≤ 9223372036854775807 then ((impl_CountSymmetries.f k l0_0 l0_1).bind fun t510 => ((impl_FormatInt.f t510).bind fun t511 => (if 11 + t511.size ≤ 9223372036854775807 then (some (([(((⟨#[115, 113, 117, 97, 114, 101, 115, 32]⟩ : ByteArray) ++ t498) ++ (⟨#[32]⟩ : ByteArray)) ++ t499, (⟨#[97, 110, 103, 108, 101, 115, 32]⟩ : ByteArray) ++ t503, (((⟨#[103, 101, 110, 117, 115, 32]⟩ : ByteArray) ++ t505) ++ (⟨#[32, 115, 116, 114, 97, 116, 117, 109, 32]⟩ : ByteArray)) ++ t509, (⟨#[115, 121, 109, 109, 101, 116, 114, 105, 101, 115, 32]⟩ : ByteArray) ++ t511] : List ByteArray))) else (none)))) else (none)))) else (none)) else (none)))) else (none)))) else (none))) else (none)) else (none)))) = some r := by rw [if_pos rfl] at H; exact H
 clear H
 have H := H1
 clear H1
 replace H := Option.bind_eq_some_iff.mp H
 obtain ⟨t497, A40, H⟩ := H
 replace H : ((impl_FormatInt.f t497).bind fun t498 => (if 8 + t498.size ≤ 9223372036854775807 then (if ((⟨#[115, 113, 117, 97, 114, 101, 115, 32]⟩ : ByteArray) ++ t498).size + 1 ≤ 9223372036854775807 then ((impl_FormatSurface.f k l0_0 l0_1).bind fun t499 => (if (((⟨#[115, 113, 117, 97, 114, 101, 115, 32]⟩ : ByteArray) ++ t498) ++ (⟨#[32]⟩ : ByteArray)).size + t499.size ≤ 9223372036854775807 then ((impl_AnglesOf.f k l0_0 l0_1).bind fun t500 => ((impl_FormatList.f k t500).bind fun t503 => (if 7 + t503.size ≤ 9223372036854775807 then ((impl_GenusOf.f k l0_0 l0_1).bind fun t504 => ((impl_FormatInt.f t504).bind fun t505 => (if 6 + t505.size ≤ 9223372036854775807 then (if ((⟨#[103, 101, 110, 117, 115, 32]⟩ : ByteArray) ++ t505).size + 9 ≤ 9223372036854775807 then ((impl_StratumOf.f k l0_0 l0_1).bind fun t506 => ((impl_FormatList.f k t506).bind fun t509 => (if (((⟨#[103, 101, 110, 117, 115, 32]⟩ : ByteArray) ++ t505) ++ (⟨#[32, 115, 116, 114, 97, 116, 117, 109, 32]⟩ : ByteArray)).size + t509.size ≤ 9223372036854775807 then ((impl_CountSymmetries.f k l0_0 l0_1).bind fun t510 => ((impl_FormatInt.f t510).bind fun t511 => (if 11 + t511.size ≤ 9223372036854775807 then (some (([(((⟨#[115, 113, 117, 97, 114, 101, 115, 32]⟩ : ByteArray) ++ t498) ++ (⟨#[32]⟩ : ByteArray)) ++ t499, (⟨#[97, 110, 103, 108, 101, 115, 32]⟩ : ByteArray) ++ t503, (((⟨#[103, 101, 110, 117, 115, 32]⟩ : ByteArray) ++ t505) ++ (⟨#[32, 115, 116, 114, 97, 116, 117, 109, 32]⟩ : ByteArray)) ++ t509, (⟨#[115, 121, 109, 109, 101, 116, 114, 105, 101, 115, 32]⟩ : ByteArray) ++ t511] : List ByteArray))) else (none)))) else (none)))) else (none)) else (none)))) else (none)))) else (none))) else (none)) else (none))) = some r := H
 have A4 := Aside0.mk A40
 clear A40
 replace H := Option.bind_eq_some_iff.mp H
 obtain ⟨t498, A50, H⟩ := H
 replace H : (if 8 + t498.size ≤ 9223372036854775807 then (if ((⟨#[115, 113, 117, 97, 114, 101, 115, 32]⟩ : ByteArray) ++ t498).size + 1 ≤ 9223372036854775807 then ((impl_FormatSurface.f k l0_0 l0_1).bind fun t499 => (if (((⟨#[115, 113, 117, 97, 114, 101, 115, 32]⟩ : ByteArray) ++ t498) ++ (⟨#[32]⟩ : ByteArray)).size + t499.size ≤ 9223372036854775807 then ((impl_AnglesOf.f k l0_0 l0_1).bind fun t500 => ((impl_FormatList.f k t500).bind fun t503 => (if 7 + t503.size ≤ 9223372036854775807 then ((impl_GenusOf.f k l0_0 l0_1).bind fun t504 => ((impl_FormatInt.f t504).bind fun t505 => (if 6 + t505.size ≤ 9223372036854775807 then (if ((⟨#[103, 101, 110, 117, 115, 32]⟩ : ByteArray) ++ t505).size + 9 ≤ 9223372036854775807 then ((impl_StratumOf.f k l0_0 l0_1).bind fun t506 => ((impl_FormatList.f k t506).bind fun t509 => (if (((⟨#[103, 101, 110, 117, 115, 32]⟩ : ByteArray) ++ t505) ++ (⟨#[32, 115, 116, 114, 97, 116, 117, 109, 32]⟩ : ByteArray)).size + t509.size ≤ 9223372036854775807 then ((impl_CountSymmetries.f k l0_0 l0_1).bind fun t510 => ((impl_FormatInt.f t510).bind fun t511 => (if 11 + t511.size ≤ 9223372036854775807 then (some (([(((⟨#[115, 113, 117, 97, 114, 101, 115, 32]⟩ : ByteArray) ++ t498) ++ (⟨#[32]⟩ : ByteArray)) ++ t499, (⟨#[97, 110, 103, 108, 101, 115, 32]⟩ : ByteArray) ++ t503, (((⟨#[103, 101, 110, 117, 115, 32]⟩ : ByteArray) ++ t505) ++ (⟨#[32, 115, 116, 114, 97, 116, 117, 109, 32]⟩ : ByteArray)) ++ t509, (⟨#[115, 121, 109, 109, 101, 116, 114, 105, 101, 115, 32]⟩ : ByteArray) ++ t511] : List ByteArray))) else (none)))) else (none)))) else (none)) else (none)))) else (none)))) else (none))) else (none)) else (none)) = some r := H
 have A5 := Aside0.mk A50
 clear A50
 by_cases c6 : 8 + t498.size ≤ 9223372036854775807
 {
 rw [if_pos c6] at H
 have c6b0 := eq_true c6
 have c6b1 : decide (8 + t498.size ≤ 9223372036854775807) = true := decide_eq_true c6
 try have c6b2 : (9223372036854775807 < 8 + t498.size) = False := eq_false (Nat.not_lt.2 c6)
 by_cases c7 : ((⟨#[115, 113, 117, 97, 114, 101, 115, 32]⟩ : ByteArray) ++ t498).size + 1 ≤ 9223372036854775807
 {
 rw [if_pos c7] at H
 have c7b0 := eq_true c7
 have c7b1 : decide (((⟨#[115, 113, 117, 97, 114, 101, 115, 32]⟩ : ByteArray) ++ t498).size + 1 ≤ 9223372036854775807) = true := decide_eq_true c7
 try have c7b2 : (9223372036854775807 < ((⟨#[115, 113, 117, 97, 114, 101, 115, 32]⟩ : ByteArray) ++ t498).size + 1) = False := eq_false (Nat.not_lt.2 c7)
 try have c7b3 : (9223372036854775807 < 8 + t498.size + 1) = False := eq_false (Nat.not_lt.2 (by have hz_ := c7; simp only [ByteArray.size_append] at hz_; first | exact hz_ | omega))
 replace H := Option.bind_eq_some_iff.mp H
 obtain ⟨t499, A80, H⟩ := H
 replace H : (if (((⟨#[115, 113, 117, 97, 114, 101, 115, 32]⟩ : ByteArray) ++ t498) ++ (⟨#[32]⟩ : ByteArray)).size + t499.size ≤ 9223372036854775807 then ((impl_AnglesOf.f k l0_0 l0_1).bind fun t500 => ((impl_FormatList.f k t500).bind fun t503 => (if 7 + t503.size ≤ 9223372036854775807 then ((impl_GenusOf.f k l0_0 l0_1).bind fun t504 => ((impl_FormatInt.f t504).bind fun t505 => (if 6 + t505.size ≤ 9223372036854775807 then (if ((⟨#[103, 101, 110, 117, 115, 32]⟩ : ByteArray) ++ t505).size + 9 ≤ 9223372036854775807 then ((impl_StratumOf.f k l0_0 l0_1).bind fun t506 => ((impl_FormatList.f k t506).bind fun t509 => (if (((⟨#[103, 101, 110, 117, 115, 32]⟩ : ByteArray) ++ t505) ++ (⟨#[32, 115, 116, 114, 97, 116, 117, 109, 32]⟩ : ByteArray)).size + t509.size ≤ 9223372036854775807 then ((impl_CountSymmetries.f k l0_0 l0_1).bind fun t510 => ((impl_FormatInt.f t510).bind fun t511 => (if 11 + t511.size ≤ 9223372036854775807 then (some (([(((⟨#[115, 113, 117, 97, 114, 101, 115, 32]⟩ : ByteArray) ++ t498) ++ (⟨#[32]⟩ : ByteArray)) ++ t499, (⟨#[97, 110, 103, 108, 101, 115, 32]⟩ : ByteArray) ++ t503, (((⟨#[103, 101, 110, 117, 115, 32]⟩ : ByteArray) ++ t505) ++ (⟨#[32, 115, 116, 114, 97, 116, 117, 109, 32]⟩ : ByteArray)) ++ t509, (⟨#[115, 121, 109, 109, 101, 116, 114, 105, 101, 115, 32]⟩ : ByteArray) ++ t511] : List ByteArray))) else (none)))) else (none)))) else (none)) else (none)))) else (none)))) else (none)) = some r := H
 have A8 := Aside0.mk A80
 clear A80
 by_cases c9 : (((⟨#[115, 113, 117, 97, 114, 101, 115, 32]⟩ : ByteArray) ++ t498) ++ (⟨#[32]⟩ : ByteArray)).size + t499.size ≤ 9223372036854775807
 {
 rw [if_pos c9] at H
 have c9b0 := eq_true c9
 have c9b1 : decide ((((⟨#[115, 113, 117, 97, 114, 101, 115, 32]⟩ : ByteArray) ++ t498) ++ (⟨#[32]⟩ : ByteArray)).size + t499.size ≤ 9223372036854775807) = true := decide_eq_true c9
 try have c9b2 : (9223372036854775807 < (((⟨#[115, 113, 117, 97, 114, 101, 115, 32]⟩ : ByteArray) ++ t498) ++ (⟨#[32]⟩ : ByteArray)).size + t499.size) = False := eq_false (Nat.not_lt.2 c9)
 try have c9b3 : (9223372036854775807 < 8 + t498.size + 1 + t499.size) = False := eq_false (Nat.not_lt.2 (by have hz_ := c9; simp only [ByteArray.size_append] at hz_; first | exact hz_ | omega))
 replace H := Option.bind_eq_some_iff.mp H
 obtain ⟨t500, A100, H⟩ := H
 replace H : ((impl_FormatList.f k t500).bind fun t503 => (if 7 + t503.size ≤ 9223372036854775807 then ((impl_GenusOf.f k l0_0 l0_1).bind fun t504 => ((impl_FormatInt.f t504).bind fun t505 => (if 6 + t505.size ≤ 9223372036854775807 then (if ((⟨#[103, 101, 110, 117, 115, 32]⟩ : ByteArray) ++ t505).size + 9 ≤ 9223372036854775807 then ((impl_StratumOf.f k l0_0 l0_1).bind fun t506 => ((impl_FormatList.f k t506).bind fun t509 => (if (((⟨#[103, 101, 110, 117, 115, 32]⟩ : ByteArray) ++ t505) ++ (⟨#[32, 115, 116, 114, 97, 116, 117, 109, 32]⟩ : ByteArray)).size + t509.size ≤ 9223372036854775807 then ((impl_CountSymmetries.f k l0_0 l0_1).bind fun t510 => ((impl_FormatInt.f t510).bind fun t511 => (if 11 + t511.size ≤ 9223372036854775807 then (some (([(((⟨#[115, 113, 117, 97, 114, 101, 115, 32]⟩ : ByteArray) ++ t498) ++ (⟨#[32]⟩ : ByteArray)) ++ t499, (⟨#[97, 110, 103, 108, 101, 115, 32]⟩ : ByteArray) ++ t503, (((⟨#[103, 101, 110, 117, 115, 32]⟩ : ByteArray) ++ t505) ++ (⟨#[32, 115, 116, 114, 97, 116, 117, 109, 32]⟩ : ByteArray)) ++ t509, (⟨#[115, 121, 109, 109, 101, 116, 114, 105, 101, 115, 32]⟩ : ByteArray) ++ t511] : List ByteArray))) else (none)))) else (none)))) else (none)) else (none)))) else (none))) = some r := H
 have A10 := Aside0.mk A100
 clear A100
 replace H := Option.bind_eq_some_iff.mp H
 obtain ⟨t503, A110, H⟩ := H
 replace H : (if 7 + t503.size ≤ 9223372036854775807 then ((impl_GenusOf.f k l0_0 l0_1).bind fun t504 => ((impl_FormatInt.f t504).bind fun t505 => (if 6 + t505.size ≤ 9223372036854775807 then (if ((⟨#[103, 101, 110, 117, 115, 32]⟩ : ByteArray) ++ t505).size + 9 ≤ 9223372036854775807 then ((impl_StratumOf.f k l0_0 l0_1).bind fun t506 => ((impl_FormatList.f k t506).bind fun t509 => (if (((⟨#[103, 101, 110, 117, 115, 32]⟩ : ByteArray) ++ t505) ++ (⟨#[32, 115, 116, 114, 97, 116, 117, 109, 32]⟩ : ByteArray)).size + t509.size ≤ 9223372036854775807 then ((impl_CountSymmetries.f k l0_0 l0_1).bind fun t510 => ((impl_FormatInt.f t510).bind fun t511 => (if 11 + t511.size ≤ 9223372036854775807 then (some (([(((⟨#[115, 113, 117, 97, 114, 101, 115, 32]⟩ : ByteArray) ++ t498) ++ (⟨#[32]⟩ : ByteArray)) ++ t499, (⟨#[97, 110, 103, 108, 101, 115, 32]⟩ : ByteArray) ++ t503, (((⟨#[103, 101, 110, 117, 115, 32]⟩ : ByteArray) ++ t505) ++ (⟨#[32, 115, 116, 114, 97, 116, 117, 109, 32]⟩ : ByteArray)) ++ t509, (⟨#[115, 121, 109, 109, 101, 116, 114, 105, 101, 115, 32]⟩ : ByteArray) ++ t511] : List ByteArray))) else (none)))) else (none)))) else (none)) else (none)))) else (none)) = some r := H
 have A11 := Aside0.mk A110
 clear A110
 by_cases c12 : 7 + t503.size ≤ 9223372036854775807
 {
 rw [if_pos c12] at H
 have c12b0 := eq_true c12
 have c12b1 : decide (7 + t503.size ≤ 9223372036854775807) = true := decide_eq_true c12
 try have c12b2 : (9223372036854775807 < 7 + t503.size) = False := eq_false (Nat.not_lt.2 c12)
 replace H := Option.bind_eq_some_iff.mp H
 obtain ⟨t504, A130, H⟩ := H
 replace H : ((impl_FormatInt.f t504).bind fun t505 => (if 6 + t505.size ≤ 9223372036854775807 then (if ((⟨#[103, 101, 110, 117, 115, 32]⟩ : ByteArray) ++ t505).size + 9 ≤ 9223372036854775807 then ((impl_StratumOf.f k l0_0 l0_1).bind fun t506 => ((impl_FormatList.f k t506).bind fun t509 => (if (((⟨#[103, 101, 110, 117, 115, 32]⟩ : ByteArray) ++ t505) ++ (⟨#[32, 115, 116, 114, 97, 116, 117, 109, 32]⟩ : ByteArray)).size + t509.size ≤ 9223372036854775807 then ((impl_CountSymmetries.f k l0_0 l0_1).bind fun t510 => ((impl_FormatInt.f t510).bind fun t511 => (if 11 + t511.size ≤ 9223372036854775807 then (some (([(((⟨#[115, 113, 117, 97, 114, 101, 115, 32]⟩ : ByteArray) ++ t498) ++ (⟨#[32]⟩ : ByteArray)) ++ t499, (⟨#[97, 110, 103, 108, 101, 115, 32]⟩ : ByteArray) ++ t503, (((⟨#[103, 101, 110, 117, 115, 32]⟩ : ByteArray) ++ t505) ++ (⟨#[32, 115, 116, 114, 97, 116, 117, 109, 32]⟩ : ByteArray)) ++ t509, (⟨#[115, 121, 109, 109, 101, 116, 114, 105, 101, 115, 32]⟩ : ByteArray) ++ t511] : List ByteArray))) else (none)))) else (none)))) else (none)) else (none))) = some r := H
 have A13 := Aside0.mk A130
 clear A130
 replace H := Option.bind_eq_some_iff.mp H
 obtain ⟨t505, A140, H⟩ := H
 replace H : (if 6 + t505.size ≤ 9223372036854775807 then (if ((⟨#[103, 101, 110, 117, 115, 32]⟩ : ByteArray) ++ t505).size + 9 ≤ 9223372036854775807 then ((impl_StratumOf.f k l0_0 l0_1).bind fun t506 => ((impl_FormatList.f k t506).bind fun t509 => (if (((⟨#[103, 101, 110, 117, 115, 32]⟩ : ByteArray) ++ t505) ++ (⟨#[32, 115, 116, 114, 97, 116, 117, 109, 32]⟩ : ByteArray)).size + t509.size ≤ 9223372036854775807 then ((impl_CountSymmetries.f k l0_0 l0_1).bind fun t510 => ((impl_FormatInt.f t510).bind fun t511 => (if 11 + t511.size ≤ 9223372036854775807 then (some (([(((⟨#[115, 113, 117, 97, 114, 101, 115, 32]⟩ : ByteArray) ++ t498) ++ (⟨#[32]⟩ : ByteArray)) ++ t499, (⟨#[97, 110, 103, 108, 101, 115, 32]⟩ : ByteArray) ++ t503, (((⟨#[103, 101, 110, 117, 115, 32]⟩ : ByteArray) ++ t505) ++ (⟨#[32, 115, 116, 114, 97, 116, 117, 109, 32]⟩ : ByteArray)) ++ t509, (⟨#[115, 121, 109, 109, 101, 116, 114, 105, 101, 115, 32]⟩ : ByteArray) ++ t511] : List ByteArray))) else (none)))) else (none)))) else (none)) else (none)) = some r := H
 have A14 := Aside0.mk A140
 clear A140
 by_cases c15 : 6 + t505.size ≤ 9223372036854775807
 {
 rw [if_pos c15] at H
 have c15b0 := eq_true c15
 have c15b1 : decide (6 + t505.size ≤ 9223372036854775807) = true := decide_eq_true c15
 try have c15b2 : (9223372036854775807 < 6 + t505.size) = False := eq_false (Nat.not_lt.2 c15)
 by_cases c16 : ((⟨#[103, 101, 110, 117, 115, 32]⟩ : ByteArray) ++ t505).size + 9 ≤ 9223372036854775807
 {
 rw [if_pos c16] at H
 have c16b0 := eq_true c16
 have c16b1 : decide (((⟨#[103, 101, 110, 117, 115, 32]⟩ : ByteArray) ++ t505).size + 9 ≤ 9223372036854775807) = true := decide_eq_true c16
 try have c16b2 : (9223372036854775807 < ((⟨#[103, 101, 110, 117, 115, 32]⟩ : ByteArray) ++ t505).size + 9) = False := eq_false (Nat.not_lt.2 c16)
 try have c16b3 : (9223372036854775807 < 6 + t505.size + 9) = False := eq_false (Nat.not_lt.2 (by have hz_ := c16; simp only [ByteArray.size_append] at hz_; first | exact hz_ | omega))
 replace H := Option.bind_eq_some_iff.mp H
 obtain ⟨t506, A170, H⟩ := H
 replace H : ((impl_FormatList.f k t506).bind fun t509 => (if (((⟨#[103, 101, 110, 117, 115, 32]⟩ : ByteArray) ++ t505) ++ (⟨#[32, 115, 116, 114, 97, 116, 117, 109, 32]⟩ : ByteArray)).size + t509.size ≤ 9223372036854775807 then ((impl_CountSymmetries.f k l0_0 l0_1).bind fun t510 => ((impl_FormatInt.f t510).bind fun t511 => (if 11 + t511.size ≤ 9223372036854775807 then (some (([(((⟨#[115, 113, 117, 97, 114, 101, 115, 32]⟩ : ByteArray) ++ t498) ++ (⟨#[32]⟩ : ByteArray)) ++ t499, (⟨#[97, 110, 103, 108, 101, 115, 32]⟩ : ByteArray) ++ t503, (((⟨#[103, 101, 110, 117, 115, 32]⟩ : ByteArray) ++ t505) ++ (⟨#[32, 115, 116, 114, 97, 116, 117, 109, 32]⟩ : ByteArray)) ++ t509, (⟨#[115, 121, 109, 109, 101, 116, 114, 105, 101, 115, 32]⟩ : ByteArray) ++ t511] : List ByteArray))) else (none)))) else (none))) = some r := H
 have A17 := Aside0.mk A170
 clear A170
 replace H := Option.bind_eq_some_iff.mp H
 obtain ⟨t509, A180, H⟩ := H
 replace H : (if (((⟨#[103, 101, 110, 117, 115, 32]⟩ : ByteArray) ++ t505) ++ (⟨#[32, 115, 116, 114, 97, 116, 117, 109, 32]⟩ : ByteArray)).size + t509.size ≤ 9223372036854775807 then ((impl_CountSymmetries.f k l0_0 l0_1).bind fun t510 => ((impl_FormatInt.f t510).bind fun t511 => (if 11 + t511.size ≤ 9223372036854775807 then (some (([(((⟨#[115, 113, 117, 97, 114, 101, 115, 32]⟩ : ByteArray) ++ t498) ++ (⟨#[32]⟩ : ByteArray)) ++ t499, (⟨#[97, 110, 103, 108, 101, 115, 32]⟩ : ByteArray) ++ t503, (((⟨#[103, 101, 110, 117, 115, 32]⟩ : ByteArray) ++ t505) ++ (⟨#[32, 115, 116, 114, 97, 116, 117, 109, 32]⟩ : ByteArray)) ++ t509, (⟨#[115, 121, 109, 109, 101, 116, 114, 105, 101, 115, 32]⟩ : ByteArray) ++ t511] : List ByteArray))) else (none)))) else (none)) = some r := H
 have A18 := Aside0.mk A180
 clear A180
 by_cases c19 : (((⟨#[103, 101, 110, 117, 115, 32]⟩ : ByteArray) ++ t505) ++ (⟨#[32, 115, 116, 114, 97, 116, 117, 109, 32]⟩ : ByteArray)).size + t509.size ≤ 9223372036854775807
 {
 rw [if_pos c19] at H
 have c19b0 := eq_true c19
 have c19b1 : decide ((((⟨#[103, 101, 110, 117, 115, 32]⟩ : ByteArray) ++ t505) ++ (⟨#[32, 115, 116, 114, 97, 116, 117, 109, 32]⟩ : ByteArray)).size + t509.size ≤ 9223372036854775807) = true := decide_eq_true c19
 try have c19b2 : (9223372036854775807 < (((⟨#[103, 101, 110, 117, 115, 32]⟩ : ByteArray) ++ t505) ++ (⟨#[32, 115, 116, 114, 97, 116, 117, 109, 32]⟩ : ByteArray)).size + t509.size) = False := eq_false (Nat.not_lt.2 c19)
 try have c19b3 : (9223372036854775807 < 6 + t505.size + 9 + t509.size) = False := eq_false (Nat.not_lt.2 (by have hz_ := c19; simp only [ByteArray.size_append] at hz_; first | exact hz_ | omega))
 replace H := Option.bind_eq_some_iff.mp H
 obtain ⟨t510, A200, H⟩ := H
 replace H : ((impl_FormatInt.f t510).bind fun t511 => (if 11 + t511.size ≤ 9223372036854775807 then (some (([(((⟨#[115, 113, 117, 97, 114, 101, 115, 32]⟩ : ByteArray) ++ t498) ++ (⟨#[32]⟩ : ByteArray)) ++ t499, (⟨#[97, 110, 103, 108, 101, 115, 32]⟩ : ByteArray) ++ t503, (((⟨#[103, 101, 110, 117, 115, 32]⟩ : ByteArray) ++ t505) ++ (⟨#[32, 115, 116, 114, 97, 116, 117, 109, 32]⟩ : ByteArray)) ++ t509, (⟨#[115, 121, 109, 109, 101, 116, 114, 105, 101, 115, 32]⟩ : ByteArray) ++ t511] : List ByteArray))) else (none))) = some r := H
 have A20 := Aside0.mk A200
 clear A200
 replace H := Option.bind_eq_some_iff.mp H
 obtain ⟨t511, A210, H⟩ := H
 replace H : (if 11 + t511.size ≤ 9223372036854775807 then (some (([(((⟨#[115, 113, 117, 97, 114, 101, 115, 32]⟩ : ByteArray) ++ t498) ++ (⟨#[32]⟩ : ByteArray)) ++ t499, (⟨#[97, 110, 103, 108, 101, 115, 32]⟩ : ByteArray) ++ t503, (((⟨#[103, 101, 110, 117, 115, 32]⟩ : ByteArray) ++ t505) ++ (⟨#[32, 115, 116, 114, 97, 116, 117, 109, 32]⟩ : ByteArray)) ++ t509, (⟨#[115, 121, 109, 109, 101, 116, 114, 105, 101, 115, 32]⟩ : ByteArray) ++ t511] : List ByteArray))) else (none)) = some r := H
 have A21 := Aside0.mk A210
 clear A210
 by_cases c22 : 11 + t511.size ≤ 9223372036854775807
 {
 rw [if_pos c22] at H
 have c22b0 := eq_true c22
 have c22b1 : decide (11 + t511.size ≤ 9223372036854775807) = true := decide_eq_true c22
 try have c22b2 : (9223372036854775807 < 11 + t511.size) = False := eq_false (Nat.not_lt.2 c22)
 obtain ⟨y512, hy512⟩ : ∃ y_ : List ByteArray, y_ = (([(((⟨#[115, 113, 117, 97, 114, 101, 115, 32]⟩ : ByteArray) ++ t498) ++ (⟨#[32]⟩ : ByteArray)) ++ t499, (⟨#[97, 110, 103, 108, 101, 115, 32]⟩ : ByteArray) ++ t503, (((⟨#[103, 101, 110, 117, 115, 32]⟩ : ByteArray) ++ t505) ++ (⟨#[32, 115, 116, 114, 97, 116, 117, 109, 32]⟩ : ByteArray)) ++ t509, (⟨#[115, 121, 109, 109, 101, 116, 114, 105, 101, 115, 32]⟩ : ByteArray) ++ t511] : List ByteArray)) := ⟨_, rfl⟩
 replace H : (some y512) = some r := by first | (rw [hy512]; with_reducible exact H) | (have H2_ := (Option.bind_some _ _).symm.trans H; rw [hy512]; with_reducible exact H2_) | (have H2_ := (Option.bind_some _ _).symm.trans H; with_reducible exact H2_) | with_reducible exact H | (rw [hy512]; exact H) | exact H
 have Ny512 := Aside0.mk hy512
 clear hy512
 obtain rfl := Option.some.inj H
 go_enter Tryz.func7, Tryz.ntmps7
 try go_wp2_with (first | ((with_reducible refine gate_dst (N := 1) rfl ?_); refine box_event ?hg (N := 1) ?hd (cs := #[.slice A0_0 l0_0.length c0_0, .slice A0_1 l0_1.length c0_1]) (t := 25) ?hr ?_; (case hd => rfl); (case hg => rfl); (case hr => first | (go_simp; done) | (go_simp; rfl)); intro gb495 hg w23 hbox hb; have n0_ := Aside0.mk (below_step (bX HB.out) hb); have n1_ := Aside0.mk (hbox); have n2_ := Aside0.mk ((szX (below_size (bX HB.out)) hg : w.heap.size ≤ gb495)); have n3_ := Aside0.mk ((szX (below_size (bX HB.out)) hg : w.heap.size ≤ gb495)); clear HB; have HB := n0_; have BK495 := n1_; have GW495 := n2_; have GE495 := n3_; clear n0_ n1_ n2_ n3_ hb hbox hg; have hcz24_0 := cz20 BK495.out; have hcz24_1 := cz21 BK495.out; have hfz24_0 := blk_frozen BK495.out 0; have hfz24_1 := blk_frozen BK495.out 1) | ((with_reducible refine gate_callee (f := 31) rfl ?_); refine goesL_ (some 4) rfl rfl Tryz.func31 (by kernel_rfl) rfl #[.agg #[.slice A0_0 l0_0.length c0_0, .slice A0_1 l0_1.length c0_1]] rfl aX ?_; (with_reducible refine (impl_SurfaceOk.calls k _ _ l0_0 _ _ l0_1 true _ ?side1 ?side2 ?side3 ?side4 A2.out).mono ?_); (case side1 => exact cX (Kd.C_below HR0_0.out HB.out)); (case side2 => exact HC0_0.out); (case side3 => exact cX (Kd.C_below HR0_1.out HB.out)); (case side4 => exact HC0_1.out); rintro e w25 ⟨rfl, hb⟩; refine ⟨_, rfl, ?_⟩; have n0_ := Aside0.mk (bbX BK495.out hb); have n1_ := Aside0.mk (below_step (bX1 HB.out GE495.out) hb); clear BK495 HB; have BK495 := n0_; have HB := n1_; clear n0_ n1_; (try clear hb); (try clear hb2); (try clear hk); (try clear hi)))
 have n0_ := Aside0.mk (blk_drew BK495.out)
 have n1_ := Aside0.mk (below_drew1 HB.out)
 clear BK495 HB
 have BK495 := n0_
 have HB := n1_
 clear n0_ n1_
 refine start_ (n := 27) (S := fun w' => w'.cell? ⟨gb495, 0, none⟩ = some (.slice A0_0 l0_0.length c0_0) ∧ w'.cell? ⟨gb495, 1, none⟩ = some (.slice A0_1 l0_1.length c0_1)) (ds := []) #[ff,ff,ff,ff,ff,ff,ff,ff,ff,ff,ff,ff,ff,ff,ff,ff,ff,ff,ff,ff,ff,ff,ff,ff,ff,ff,ff] (by kernel_rfl) rfl rfl ⟨cz20 BK495.out, cz21 BK495.out⟩ (fun hHeld => ?_); refine with_tabW impl_SurfaceLines.tab3 impl_SurfaceLines.bits3 (fun HT_ HW_ => ?_)
 generalize w25.drew = w26 at BK495 HB hHeld ⊢
 refine tX2 0 6 (fl 27 1) rfl rfl HT_.out HW_.out hHeld ?_
 refine tX2 5 11 (fl 27 33) rfl rfl HT_.out HW_.out hHeld ?_
 refine tX2 8 14 (fl 27 289) rfl rfl HT_.out HW_.out hHeld ?_
 refine tX2 12 18 (fl 27 4385) rfl rfl HT_.out HW_.out hHeld ?_
 refine tX2 17 23 (fl 27 135457) rfl rfl HT_.out HW_.out hHeld ?_
 refine tX2 21 27 (fl 27 2232609) rfl rfl HT_.out HW_.out hHeld ?_
 refine one_ (i := 1) (N := some 7) #[tt,tt,ff,ff,ff,tt,ff,ff,tt,ff,ff,ff,tt,ff,ff,ff,ff,tt,ff,ff,ff,tt,ff,ff,ff,ff,ff] rfl rfl (one_of HT_.out (by kernel_rfl)) (by decide) (fun K hK => ?_)
 refine goes_ Tryz.func32 (by kernel_rfl) rfl #[.agg #[.slice A0_0 l0_0.length c0_0, .slice A0_1 l0_1.length c0_1]] (by rfl) rfl rfl aX ?_
 with_reducible refine (impl_CountSquares.calls k _ _ l0_0 _ _ l0_1 t497 _ ?side1 ?side2 ?side3 ?side4 A4.out).mono ?_
 (case side1 => exact cX (Kd.C_below HR0_0.out HB.out))
 (case side2 => exact HC0_0.out)
 (case side3 => exact cX (Kd.C_below HR0_1.out HB.out))
 (case side4 => exact HC0_1.out)
 rintro e w27 ⟨rfl, hb⟩
 refine ⟨_, rfl, ?_⟩
 have n0_ := Aside0.mk (bbX BK495.out hb)
 have n1_ := Aside0.mk (below_step (bX1 HB.out GE495.out) hb)
 clear BK495 HB
 have BK495 := n0_
 have HB := n1_
 clear n0_ n1_
 (try clear hb)
 (try clear hb2)
 (try clear hk)
 (try clear hi)
 refine hK.out _ _ ⟨cz20 BK495.out, cz21 BK495.out⟩ (fun hHeld => ?_)
 clear hK K
 refine norm_ (a' := ?_) ?_ ?_
 rotate_left
 {
 show Act.put _ (some 7) _ = _
 simp only [Act.put, zA, zB, zC, i64_w, i32_w]
 rfl
 }
 refine one_ (i := 2) (N := some 8) #[tt,tt,tt,ff,ff,tt,ff,ff,tt,ff,ff,ff,tt,ff,ff,ff,ff,tt,ff,ff,ff,tt,ff,ff,ff,ff,ff] rfl rfl (one_of HT_.out (by kernel_rfl)) (by decide) (fun K hK => ?_)
 refine goes_ Tryz.func9 (by kernel_rfl) rfl #[.int .i64 t497] (by rfl) rfl rfl aX ?_
 with_reducible refine (impl_FormatInt.calls t497 t498 _ ?side1 A5.out).mono ?_
 (case side1 => exact PowTab.below HTAB.out (bX1 HB.out GE495.out))
 rintro e w28 ⟨rfl, hb⟩
 refine ⟨_, rfl, ?_⟩
 have n0_ := Aside0.mk (bbX BK495.out hb)
 have n1_ := Aside0.mk (below_step (bX1 HB.out GE495.out) hb)
 clear BK495 HB
 have BK495 := n0_
 have HB := n1_
 clear n0_ n1_
 (try clear hb)
 (try clear hb2)
 (try clear hk)
 (try clear hi)
 refine hK.out _ _ ⟨cz20 BK495.out, cz21 BK495.out⟩ (fun hHeld => ?_)
 clear hK K
 refine norm_ (a' := ?_) ?_ ?_
 rotate_left
 {
 show Act.put _ (some 8) _ = _
 simp only [Act.put, zA, zB, zC, i64_w, i32_w]
 rfl
 }
 refine pX 3 9 (fl 27 2232623) rfl rfl HT_.out ?_
 refine pX 4 10 (fl 27 2232639) rfl rfl HT_.out ?_
 refine one_ (i := 6) (N := some 12) #[tt,tt,tt,tt,tt,tt,tt,ff,tt,ff,ff,ff,tt,ff,ff,ff,ff,tt,ff,ff,ff,tt,ff,ff,ff,ff,ff] rfl rfl (one_of HT_.out (by kernel_rfl)) (by decide) (fun K hK => ?_)
 refine goes_ Tryz.func10 (by kernel_rfl) rfl #[.agg #[.slice A0_0 l0_0.length c0_0, .slice A0_1 l0_1.length c0_1]] (by rfl) rfl rfl aX ?_
 with_reducible refine (impl_FormatSurface.calls k _ _ l0_0 _ _ l0_1 t499 _ ?side1 ?side2 ?side3 ?side4 ?side5 A8.out).mono ?_
 (case side1 => exact cX (Kd.C_below HR0_0.out HB.out))
 (case side2 => exact HC0_0.out)
 (case side3 => exact cX (Kd.C_below HR0_1.out HB.out))
 (case side4 => exact HC0_1.out)
 (case side5 => exact PowTab.below HTAB.out (bX1 HB.out GE495.out))
 rintro e w29 ⟨rfl, hb⟩
 refine ⟨_, rfl, ?_⟩
 have n0_ := Aside0.mk (bbX BK495.out hb)
 have n1_ := Aside0.mk (below_step (bX1 HB.out GE495.out) hb)
 clear BK495 HB
 have BK495 := n0_
 have HB := n1_
 clear n0_ n1_
 (try clear hb)
 (try clear hb2)
 (try clear hk)
 (try clear hi)
 refine hK.out _ _ ⟨cz20 BK495.out, cz21 BK495.out⟩ (fun hHeld => ?_)
 clear hK K
 refine norm_ (a' := ?_) ?_ ?_
 rotate_left
 {
 show Act.put _ (some 12) _ = _
 simp only [Act.put, zA, zB, zC, i64_w, i32_w]
 rfl
 }
 refine pX 7 13 (fl 27 2232831) rfl rfl HT_.out ?_
 refine one_ (i := 9) (N := some 15) #[tt,tt,tt,tt,tt,tt,tt,tt,tt,tt,ff,ff,tt,ff,ff,ff,ff,tt,ff,ff,ff,tt,ff,ff,ff,ff,ff] rfl rfl (one_of HT_.out (by kernel_rfl)) (by decide) (fun K hK => ?_)
 refine goes_ Tryz.func12 (by kernel_rfl) rfl #[.agg #[.slice A0_0 l0_0.length c0_0, .slice A0_1 l0_1.length c0_1]] (by rfl) rfl rfl aX ?_
 with_reducible refine (impl_AnglesOf.calls k _ _ l0_0 _ _ l0_1 t500 _ ?side1 ?side2 ?side3 ?side4 A10.out).mono ?_
 (case side1 => exact cX (Kd.C_below HR0_0.out HB.out))
 (case side2 => exact HC0_0.out)
 (case side3 => exact cX (Kd.C_below HR0_1.out HB.out))
 (case side4 => exact HC0_1.out)
 rintro e w30 ⟨v501, rfl, ho0, hb⟩
 refine ⟨_, rfl, ?_⟩
 have n0_ := Aside0.mk (Kd.R_lower ho0 (below_size (bX1 HB.out GE495.out)))
 have n1_ := Aside0.mk (bbX BK495.out hb)
 have n2_ := Aside0.mk (below_step (bX1 HB.out GE495.out) hb)
 clear BK495 HB
 have HO502 := n0_
 have BK495 := n1_
 have HB := n2_
 clear n0_ n1_ n2_
 (try clear hb)
 (try clear hb2)
 (try clear hk)
 (try clear hi)
 (try clear ho0)
 obtain ⟨Ao31, co31, eo31⟩ := Kd.R_slice HO502.out
 (first | subst eo31 | (injection eo31 with f1_ f2_ f3_; have f4_ := f1_.symm; have f5_ := f3_.symm; clear f1_ f2_ f3_; subst f4_; subst f5_))
 refine hK.out _ _ ⟨cz20 BK495.out, cz21 BK495.out⟩ (fun hHeld => ?_)
 clear hK K
 refine norm_ (a' := ?_) ?_ ?_
 rotate_left
 {
 show Act.put _ (some 15) _ = _
 simp only [Act.put, zA, zB, zC, i64_w, i32_w]
 rfl
 }
 refine one_ (i := 10) (N := some 16) #[tt,tt,tt,tt,tt,tt,tt,tt,tt,tt,tt,ff,tt,ff,ff,ff,ff,tt,ff,ff,ff,tt,ff,ff,ff,ff,ff] rfl rfl (one_of HT_.out (by kernel_rfl)) (by decide) (fun K hK => ?_)
 refine goes_ Tryz.func11 (by kernel_rfl) rfl #[.slice Ao31 t500.length co31] (by rfl) rfl rfl aX ?_
 with_reducible refine (impl_FormatList.calls k _ _ t500 t503 _ ?side1 ?side2 ?side3 A11.out).mono ?_
 (case side1 => exact cX (Kd.R_reads' HO502.out).2.2)
 (case side2 => exact (Kd.R_reads' HO502.out).2.1)
 (case side3 => exact PowTab.below HTAB.out (bX1 HB.out GE495.out))
 rintro e w32 ⟨rfl, hb⟩
 refine ⟨_, rfl, ?_⟩
 have n0_ := Aside0.mk (Kd.R_below (rX HO502.out) hb)
 have n1_ := Aside0.mk (bbX BK495.out hb)
 have n2_ := Aside0.mk (below_step (bX1 HB.out GE495.out) hb)
 clear HO502 BK495 HB
 have HO502 := n0_
 have BK495 := n1_
 have HB := n2_
 clear n0_ n1_ n2_
 (try clear hb)
 (try clear hb2)
 (try clear hk)
 (try clear hi)
 refine hK.out _ _ ⟨cz20 BK495.out, cz21 BK495.out⟩ (fun hHeld => ?_)
 clear hK K
 refine norm_ (a' := ?_) ?_ ?_
 rotate_left
 {
 show Act.put _ (some 16) _ = _
 simp only [Act.put, zA, zB, zC, i64_w, i32_w]
 rfl
 }
 refine pX 11 17 (fl 27 2236415) rfl rfl HT_.out ?_
 refine one_ (i := 13) (N := some 19) #[tt,tt,tt,tt,tt,tt,tt,tt,tt,tt,tt,tt,tt,tt,ff,ff,ff,tt,ff,ff,ff,tt,ff,ff,ff,ff,ff] rfl rfl (one_of HT_.out (by kernel_rfl)) (by decide) (fun K hK => ?_)
 refine goes_ Tryz.func33 (by kernel_rfl) rfl #[.agg #[.slice A0_0 l0_0.length c0_0, .slice A0_1 l0_1.length c0_1]] (by rfl) rfl rfl aX ?_
 with_reducible refine (impl_GenusOf.calls k _ _ l0_0 _ _ l0_1 t504 _ ?side1 ?side2 ?side3 ?side4 A13.out).mono ?_
 (case side1 => exact cX (Kd.C_below HR0_0.out HB.out))
 (case side2 => exact HC0_0.out)
 (case side3 => exact cX (Kd.C_below HR0_1.out HB.out))
 (case side4 => exact HC0_1.out)
 rintro e w33 ⟨rfl, hb⟩
 refine ⟨_, rfl, ?_⟩
 have n0_ := Aside0.mk (Kd.R_below (rX HO502.out) hb)
 have n1_ := Aside0.mk (bbX BK495.out hb)
 have n2_ := Aside0.mk (below_step (bX1 HB.out GE495.out) hb)
 clear HO502 BK495 HB
 have HO502 := n0_
 have BK495 := n1_
 have HB := n2_
 clear n0_ n1_ n2_
 (try clear hb)
 (try clear hb2)
 (try clear hk)
 (try clear hi)
 refine hK.out _ _ ⟨cz20 BK495.out, cz21 BK495.out⟩ (fun hHeld => ?_)
 clear hK K
 refine norm_ (a' := ?_) ?_ ?_
 rotate_left
 {
 show Act.put _ (some 19) _ = _
 simp only [Act.put, zA, zB, zC, i64_w, i32_w]
 rfl
 }
 refine one_ (i := 14) (N := some 20) #[tt,tt,tt,tt,tt,tt,tt,tt,tt,tt,tt,tt,tt,tt,tt,ff,ff,tt,ff,ff,ff,tt,ff,ff,ff,ff,ff] rfl rfl (one_of HT_.out (by kernel_rfl)) (by decide) (fun K hK => ?_)
 refine goes_ Tryz.func9 (by kernel_rfl) rfl #[.int .i64 t504] (by rfl) rfl rfl aX ?_
 with_reducible refine (impl_FormatInt.calls t504 t505 _ ?side1 A14.out).mono ?_
 (case side1 => exact PowTab.below HTAB.out (bX1 HB.out GE495.out))
 rintro e w34 ⟨rfl, hb⟩
 refine ⟨_, rfl, ?_⟩
 have n0_ := Aside0.mk (Kd.R_below (rX HO502.out) hb)
 have n1_ := Aside0.mk (bbX BK495.out hb)
 have n2_ := Aside0.mk (below_step (bX1 HB.out GE495.out) hb)
 clear HO502 BK495 HB
 have HO502 := n0_
 have BK495 := n1_
 have HB := n2_
 clear n0_ n1_ n2_
 (try clear hb)
 (try clear hb2)
 (try clear hk)
 (try clear hi)
 refine hK.out _ _ ⟨cz20 BK495.out, cz21 BK495.out⟩ (fun hHeld => ?_)
 clear hK K
 refine norm_ (a' := ?_) ?_ ?_
 rotate_left
 {
 show Act.put _ (some 20) _ = _
 simp only [Act.put, zA, zB, zC, i64_w, i32_w]
 rfl
 }
 refine pX 15 21 (fl 27 2293759) rfl rfl HT_.out ?_
 refine pX 16 22 (fl 27 2359295) rfl rfl HT_.out ?_
 refine one_ (i := 18) (N := some 24) #[tt,tt,tt,tt,tt,tt,tt,tt,tt,tt,tt,tt,tt,tt,tt,tt,tt,tt,tt,ff,ff,tt,ff,ff,ff,ff,ff] rfl rfl (one_of HT_.out (by kernel_rfl)) (by decide) (fun K hK => ?_)
 refine goes_ Tryz.func34 (by kernel_rfl) rfl #[.agg #[.slice A0_0 l0_0.length c0_0, .slice A0_1 l0_1.length c0_1]] (by rfl) rfl rfl aX ?_
 with_reducible refine (impl_StratumOf.calls k _ _ l0_0 _ _ l0_1 t506 _ ?side1 ?side2 ?side3 ?side4 A17.out).mono ?_
 (case side1 => exact cX (Kd.C_below HR0_0.out HB.out))
 (case side2 => exact HC0_0.out)
 (case side3 => exact cX (Kd.C_below HR0_1.out HB.out))
 (case side4 => exact HC0_1.out)
 rintro e w35 ⟨v507, rfl, ho0, hb⟩
 refine ⟨_, rfl, ?_⟩
 have n0_ := Aside0.mk (Kd.R_elder' (rX HO502.out) (Kd.R_base ho0) hb)
 have n1_ := Aside0.mk (Kd.R_lower (Kd.R_new' ho0 (Kd.R_lt (rX HO502.out))) (below_size (bX1 HB.out GE495.out)))
 have n2_ := Aside0.mk (bbX BK495.out hb)
 have n3_ := Aside0.mk (below_step (bX1 HB.out GE495.out) hb)
 clear HO502 BK495 HB
 have HO502 := n0_
 have HO508 := n1_
 have BK495 := n2_
 have HB := n3_
 clear n0_ n1_ n2_ n3_
 (try clear hb)
 (try clear hb2)
 (try clear hk)
 (try clear hi)
 (try clear ho0)
 obtain ⟨Ao36, co36, eo36⟩ := Kd.R_slice HO508.out
 (first | subst eo36 | (injection eo36 with f1_ f2_ f3_; have f4_ := f1_.symm; have f5_ := f3_.symm; clear f1_ f2_ f3_; subst f4_; subst f5_))
 refine hK.out _ _ ⟨cz20 BK495.out, cz21 BK495.out⟩ (fun hHeld => ?_)
 clear hK K
 refine norm_ (a' := ?_) ?_ ?_
 rotate_left
 {
 show Act.put _ (some 24) _ = _
 simp only [Act.put, zA, zB, zC, i64_w, i32_w]
 rfl
 }
 refine one_ (i := 19) (N := some 25) #[tt,tt,tt,tt,tt,tt,tt,tt,tt,tt,tt,tt,tt,tt,tt,tt,tt,tt,tt,tt,ff,tt,ff,ff,ff,ff,ff] rfl rfl (one_of HT_.out (by kernel_rfl)) (by decide) (fun K hK => ?_)
 refine goes_ Tryz.func11 (by kernel_rfl) rfl #[.slice Ao36 t506.length co36] (by rfl) rfl rfl aX ?_
 with_reducible refine (impl_FormatList.calls k _ _ t506 t509 _ ?side1 ?side2 ?side3 A18.out).mono ?_
 (case side1 => exact cX (Kd.R_reads' HO508.out).2.2)
 (case side2 => exact (Kd.R_reads' HO508.out).2.1)
 (case side3 => exact PowTab.below HTAB.out (bX1 HB.out GE495.out))
 rintro e w37 ⟨rfl, hb⟩
 refine ⟨_, rfl, ?_⟩
 have n0_ := Aside0.mk (Kd.R_below (rX HO502.out) hb)
 have n1_ := Aside0.mk (Kd.R_below (rX HO508.out) hb)
 have n2_ := Aside0.mk (bbX BK495.out hb)
 have n3_ := Aside0.mk (below_step (bX1 HB.out GE495.out) hb)
 clear HO502 HO508 BK495 HB
 have HO502 := n0_
 have HO508 := n1_
 have BK495 := n2_
 have HB := n3_
 clear n0_ n1_ n2_ n3_
 (try clear hb)
 (try clear hb2)
 (try clear hk)
 (try clear hi)
 refine hK.out _ _ ⟨cz20 BK495.out, cz21 BK495.out⟩ (fun hHeld => ?_)
 clear hK K
 refine norm_ (a' := ?_) ?_ ?_
 rotate_left
 {
 show Act.put _ (some 25) _ = _
 simp only [Act.put, zA, zB, zC, i64_w, i32_w]
 rfl
 }
 refine pX 20 26 (fl 27 4194303) rfl rfl HT_.out ?_
 refine one_ (i := 22) (N := some 28) #[tt,tt,tt,tt,tt,tt,tt,tt,tt,tt,tt,tt,tt,tt,tt,tt,tt,tt,tt,tt,tt,tt,tt,ff,ff,ff,ff] rfl rfl (one_of HT_.out (by kernel_rfl)) (by decide) (fun K hK => ?_)
 refine goes_ Tryz.func13 (by kernel_rfl) rfl #[.agg #[.slice A0_0 l0_0.length c0_0, .slice A0_1 l0_1.length c0_1]] (by rfl) rfl rfl aX ?_
 with_reducible refine (impl_CountSymmetries.calls k _ _ l0_0 _ _ l0_1 t510 _ ?side1 ?side2 ?side3 ?side4 A20.out).mono ?_
 (case side1 => exact cX (Kd.C_below HR0_0.out HB.out))
 (case side2 => exact HC0_0.out)
 (case side3 => exact cX (Kd.C_below HR0_1.out HB.out))
 (case side4 => exact HC0_1.out)
 rintro e w38 ⟨rfl, hb⟩
 refine ⟨_, rfl, ?_⟩
 have n0_ := Aside0.mk (Kd.R_below (rX HO502.out) hb)
 have n1_ := Aside0.mk (Kd.R_below (rX HO508.out) hb)
 have n2_ := Aside0.mk (bbX BK495.out hb)
 have n3_ := Aside0.mk (below_step (bX1 HB.out GE495.out) hb)
 clear HO502 HO508 BK495 HB
 have HO502 := n0_
 have HO508 := n1_
 have BK495 := n2_
 have HB := n3_
 clear n0_ n1_ n2_ n3_
 (try clear hb)
 (try clear hb2)
 (try clear hk)
 (try clear hi)
 refine hK.out _ _ ⟨cz20 BK495.out, cz21 BK495.out⟩ (fun hHeld => ?_)
 clear hK K
 refine norm_ (a' := ?_) ?_ ?_
 rotate_left
 {
 show Act.put _ (some 28) _ = _
 simp only [Act.put, zA, zB, zC, i64_w, i32_w]
 rfl
 }
 refine one_ (i := 23) (N := some 29) #[tt,tt,tt,tt,tt,tt,tt,tt,tt,tt,tt,tt,tt,tt,tt,tt,tt,tt,tt,tt,tt,tt,tt,tt,ff,ff,ff] rfl rfl (one_of HT_.out (by kernel_rfl)) (by decide) (fun K hK => ?_)
 refine goes_ Tryz.func9 (by kernel_rfl) rfl #[.int .i64 t510] (by rfl) rfl rfl aX ?_
 with_reducible refine (impl_FormatInt.calls t510 t511 _ ?side1 A21.out).mono ?_
 (case side1 => exact PowTab.below HTAB.out (bX1 HB.out GE495.out))
 rintro e w39 ⟨rfl, hb⟩
 refine ⟨_, rfl, ?_⟩
 have n0_ := Aside0.mk (Kd.R_below (rX HO502.out) hb)
 have n1_ := Aside0.mk (Kd.R_below (rX HO508.out) hb)
 have n2_ := Aside0.mk (bbX BK495.out hb)
 have n3_ := Aside0.mk (below_step (bX1 HB.out GE495.out) hb)
 clear HO502 HO508 BK495 HB
 have HO502 := n0_
 have HO508 := n1_
 have BK495 := n2_
 have HB := n3_
 clear n0_ n1_ n2_ n3_
 (try clear hb)
 (try clear hb2)
 (try clear hk)
 (try clear hi)
 refine hK.out _ _ ⟨cz20 BK495.out, cz21 BK495.out⟩ (fun hHeld => ?_)
 clear hK K
 refine norm_ (a' := ?_) ?_ ?_
 rotate_left
 {
 show Act.put _ (some 29) _ = _
 simp only [Act.put, zA, zB, zC, i64_w, i32_w]
 rfl
 }
 refine pX 24 30 (fl 27 33554431) rfl rfl HT_.out ?_
 refine one_ (i := 25) (N := some 31) #[tt,tt,tt,tt,tt,tt,tt,tt,tt,tt,tt,tt,tt,tt,tt,tt,tt,tt,tt,tt,tt,tt,tt,tt,tt,tt,ff] rfl rfl (one_of HT_.out (by kernel_rfl)) (by decide) (fun K hK => ?_)
 refine Kd.R_lit_step Kd.string _ 9 ?hg (N := 31) ?hd (xs := ([(((⟨#[115, 113, 117, 97, 114, 101, 115, 32]⟩ : ByteArray) ++ t498) ++ (⟨#[32]⟩ : ByteArray)) ++ t499, (⟨#[97, 110, 103, 108, 101, 115, 32]⟩ : ByteArray) ++ t503, (((⟨#[103, 101, 110, 117, 115, 32]⟩ : ByteArray) ++ t505) ++ (⟨#[32, 115, 116, 114, 97, 116, 117, 109, 32]⟩ : ByteArray)) ++ t509, (⟨#[115, 121, 109, 109, 101, 116, 114, 105, 101, 115, 32]⟩ : ByteArray) ++ t511] : List ByteArray)) (inner := [.string ((((⟨#[115, 113, 117, 97, 114, 101, 115, 32]⟩ : ByteArray) ++ t498) ++ (⟨#[32]⟩ : ByteArray)) ++ t499), .string ((⟨#[97, 110, 103, 108, 101, 115, 32]⟩ : ByteArray) ++ t503), .string ((((⟨#[103, 101, 110, 117, 115, 32]⟩ : ByteArray) ++ t505) ++ (⟨#[32, 115, 116, 114, 97, 116, 117, 109, 32]⟩ : ByteArray)) ++ t509), .string ((⟨#[115, 121, 109, 109, 101, 116, 114, 105, 101, 115, 32]⟩ : ByteArray) ++ t511)]) (ok := fun _ => True) (okp := fun _ => True) ?hr ?hp (fun _ hk => hk) trivial (Below.refl _ _) (Nat.le_refl _) (by simp) ?_; (case hd => rfl); (case hg => rfl); (case hr => first | (go_simp; done) | (go_simp; rfl)); (case hp => exact (Reps.one (show Kd.M Kd.string _ _ _ ((((⟨#[115, 113, 117, 97, 114, 101, 115, 32]⟩ : ByteArray) ++ t498) ++ (⟨#[32]⟩ : ByteArray)) ++ t499) [.string ((((⟨#[115, 113, 117, 97, 114, 101, 115, 32]⟩ : ByteArray) ++ t498) ++ (⟨#[32]⟩ : ByteArray)) ++ t499)] from rfl) (Reps.one (show Kd.M Kd.string _ _ _ ((⟨#[97, 110, 103, 108, 101, 115, 32]⟩ : ByteArray) ++ t503) [.string ((⟨#[97, 110, 103, 108, 101, 115, 32]⟩ : ByteArray) ++ t503)] from rfl) (Reps.one (show Kd.M Kd.string _ _ _ ((((⟨#[103, 101, 110, 117, 115, 32]⟩ : ByteArray) ++ t505) ++ (⟨#[32, 115, 116, 114, 97, 116, 117, 109, 32]⟩ : ByteArray)) ++ t509) [.string ((((⟨#[103, 101, 110, 117, 115, 32]⟩ : ByteArray) ++ t505) ++ (⟨#[32, 115, 116, 114, 97, 116, 117, 109, 32]⟩ : ByteArray)) ++ t509)] from rfl) (Reps.one (show Kd.M Kd.string _ _ _ ((⟨#[115, 121, 109, 109, 101, 116, 114, 105, 101, 115, 32]⟩ : ByteArray) ++ t511) [.string ((⟨#[115, 121, 109, 109, 101, 116, 114, 105, 101, 115, 32]⟩ : ByteArray) ++ t511)] from rfl) (Reps.none _ _))))))
 intro v513 w40 ho41 hb hg_ hnew_
 clear hg_ hnew_
 (first | rw [← Ny512.out] at ho41 | (simp only [Int.reduceToNat] at ho41; rw [← Ny512.out] at ho41))
 have n0_ := Aside0.mk (Kd.R_below (rX HO502.out) hb)
 have n1_ := Aside0.mk (Kd.R_below (rX HO508.out) hb)
 have n2_ := Aside0.mk (Kd.R_lower ho41 (below_size (bX1 HB.out GE495.out)))
 have n3_ := Aside0.mk (bbX BK495.out hb)
 have n4_ := Aside0.mk (below_step (bX1 HB.out GE495.out) hb)
 clear HO502 HO508 BK495 HB
 have HO502 := n0_
 have HO508 := n1_
 have HO514 := n2_
 have BK495 := n3_
 have HB := n4_
 clear n0_ n1_ n2_ n3_ n4_ hb ho41
 refine hK.out _ _ ⟨cz20 BK495.out, cz21 BK495.out⟩ (fun hHeld => ?_)
 clear hK K
 refine norm_ (a' := ?_) ?_ ?_
 rotate_left
 {
 show Act.put _ (some 31) _ = _
 simp only [Act.put, zA, zB, zC, i64_w, i32_w]
 rfl
 }
 refine pX 26 2 (fl 27 134217727) rfl rfl HT_.out ?_
 refine done_ (done_of HT_.out (by kernel_rfl)) ?_
 try go_wp2
 go_ret
 exact ⟨_, eX, by (with_reducible repeat (first|apply rA|apply rN|apply rD)); exact HO514.out, bX1 HB.out GE495.out⟩
 }
 {
 rw [if_neg c22] at H
 exact absurd H (by simp)
 }
 }
 {
 rw [if_neg c19] at H
 exact absurd H (by simp)
 }
 }
 {
 rw [if_neg c16] at H
 exact absurd H (by simp)
 }
 }
 {
 rw [if_neg c15] at H
 exact absurd H (by simp)
 }
 }
 {
 rw [if_neg c12] at H
 exact absurd H (by simp)
 }
 }
 {
 rw [if_neg c9] at H
 exact absurd H (by simp)
 }
 }
 {
 rw [if_neg c7] at H
 exact absurd H (by simp)
 }
 }
 {
 rw [if_neg c6] at H
 exact absurd H (by simp)
 }
 }
 {
 replace c3 := Bool.eq_false_iff.mpr c3
 subst c3
 have H1 : (some ([] : List ByteArray)) = some r := by rw [if_neg (show ¬ (false = true) by decide)] at H; exact H
 clear H
 have H := H1
 clear H1
 obtain rfl := Option.some.inj H
 go_enter Tryz.func7, Tryz.ntmps7
 go_wp2_with (first | ((with_reducible refine gate_dst (N := 1) rfl ?_); refine box_event ?hg (N := 1) ?hd (cs := #[.slice A0_0 l0_0.length c0_0, .slice A0_1 l0_1.length c0_1]) (t := 25) ?hr ?_; (case hd => rfl); (case hg => rfl); (case hr => first | (go_simp; done) | (go_simp; rfl)); intro gb495 hg w42 hbox hb; have n0_ := Aside0.mk (below_step (bX HB.out) hb); have n1_ := Aside0.mk (hbox); have n2_ := Aside0.mk ((szX (below_size (bX HB.out)) hg : w.heap.size ≤ gb495)); have n3_ := Aside0.mk ((szX (below_size (bX HB.out)) hg : w.heap.size ≤ gb495)); clear HB; have HB := n0_; have BK495 := n1_; have GW495 := n2_; have GE495 := n3_; clear n0_ n1_ n2_ n3_ hb hbox hg; have hcz43_0 := cz20 BK495.out; have hcz43_1 := cz21 BK495.out; have hfz43_0 := blk_frozen BK495.out 0; have hfz43_1 := blk_frozen BK495.out 1) | ((with_reducible refine gate_callee (f := 31) rfl ?_); refine goesL_ (some 4) rfl rfl Tryz.func31 (by kernel_rfl) rfl #[.agg #[.slice A0_0 l0_0.length c0_0, .slice A0_1 l0_1.length c0_1]] rfl aX ?_; (with_reducible refine (impl_SurfaceOk.calls k _ _ l0_0 _ _ l0_1 false _ ?side1 ?side2 ?side3 ?side4 A2.out).mono ?_); (case side1 => exact cX (Kd.C_below HR0_0.out HB.out)); (case side2 => exact HC0_0.out); (case side3 => exact cX (Kd.C_below HR0_1.out HB.out)); (case side4 => exact HC0_1.out); rintro e w44 ⟨rfl, hb⟩; refine ⟨_, rfl, ?_⟩; have n0_ := Aside0.mk (bbX BK495.out hb); have n1_ := Aside0.mk (below_step (bX1 HB.out GE495.out) hb); clear BK495 HB; have BK495 := n0_; have HB := n1_; clear n0_ n1_; (try clear hb); (try clear hb2); (try clear hk); (try clear hi)))
 go_ret
 exact ⟨_, eX, by first | exact Kd.R_nil _ _ _ _ _ | exact Kd.N_nil _ _ _ _ _ | exact Kd.V_nil _ _ _ _ _ | exact Kd.Q_nil _ _ _ _ _ | exact Kd.S_nil _ _ _ _ _, bX1 HB.out GE495.out⟩
 }

/-! ### slices_Index_int_int: function 132 -/
def slices_Index_int_int.l0 : Nat → List Int → Int → Int → Int → Option (Int)
 | 0, _, _, _, _ => none
 | k + 1, x0, x1, x7, x8 => if x8 < x7 then (if 0 ≤ x8 then (if x8 < (x0.length : Int) then (if x1 = (rd x0 x8) then (some x8) else (slices_Index_int_int.l0 k x0 x1 x7 (wrap64 (x8 + 1)))) else (none)) else (none)) else (some (-1))
def slices_Index_int_int.f (k : Nat) (l0 : List Int) (a1 : Int) : Option (Int) := slices_Index_int_int.l0 k l0 a1 (l0.length : Int) 0
set_option maxHeartbeats 8000000 in
set_option maxRecDepth 100000 in
theorem slices_Index_int_int.calls (k : Nat) (A0 : Option Addr) (c0 : Nat) (l0 : List Int) (a1 : Int) (r : Int) (w : World) (hr0 : Kd.C (Kd.int .i64) w A0 l0.length l0) (hc0 : l0.length ≤ c0) (h : slices_Index_int_int.f k l0 a1 = some r) :
  Calls Tryz.prog 132 #[.slice A0 l0.length c0, .int .i64 a1] w fun e w' => e = .returned (.int .i64 r) ∧ Drawn0 w w' := by
 have HR0 := Aside0.mk hr0
 have HC0 := Aside0.mk hc0
 clear hr0 hc0
 have H : (slices_Index_int_int.l0 k l0 a1 (l0.length : Int) 0) = some r := h
 clear h
 have H' := Aside0.mk H
 clear H
 go_enter Tryz.func132, Tryz.ntmps132
 go_wp2
 go_loopg [8] k (fun kq v8 w' => ∃ (x8_1 : Int), v8 = .int .i64 x8_1 ∧ Aside0 (slices_Index_int_int.l0 kq l0 a1 (l0.length : Int) x8_1 = some r) ∧ Aside0 (kq ≤ k) ∧ Drawn0 w w')
 case atStart => exact ⟨(0), vX, H', ⟨Nat.le_refl _⟩, by repeat (first | exact Drawn0.refl _ | apply Drawn0.step)⟩
 case round =>
 clear H'
 try clear c1
 try clear p2
 obtain ⟨x8_1, rfl, HA, HK1, ⟨m1, rfl⟩⟩ := hrel
 cases gk with
 | zero => exact absurd HA.out (by simp [slices_Index_int_int.l0])
 | succ k1 =>
 have H := HA.out
 clear HA
 simp only [slices_Index_int_int.l0] at H
 by_cases c3 : x8_1 < (l0.length : Int)
 {
 rw [if_pos c3] at H
 have c3b0 : decide (x8_1 < (l0.length : Int)) = true := decide_eq_true c3
 clear c3
 by_cases c4 : 0 ≤ x8_1
 {
 rw [if_pos c4] at H
 have c4b0 : decide (0 ≤ x8_1) = true := decide_eq_true c4
 clear c4
 by_cases c5 : x8_1 < (l0.length : Int)
 {
 rw [if_pos c5] at H
 have c5b0 : decide (x8_1 < (l0.length : Int)) = true := decide_eq_true c5
 clear c5
 by_cases c6 : a1 = (rd l0 x8_1)
 {
 rw [if_pos c6] at H
 have c6b0 : (a1 == (rd l0 x8_1)) = true := beq_iff_eq.mpr c6
 have c6b1 : (a1 != (rd l0 x8_1)) = false := bne_eq_false_iff_eq.mpr c6
 clear c6
 obtain rfl := Option.some.inj H
 have p515 : 0 ≤ (x8_1 : Int) := dX
 have q515 : x8_1 < (l0.length : Int) := dX
 obtain ⟨ad515, e515, hx515_0⟩ := Kd.at_int HR0.out x8_1 p515 q515
 cases e515
 replace p515 := eq_true p515
 replace q515 := eq_true q515
 go_wp2
 go_ret
 exact ⟨by first | rfl | (simp; done) | (simp [*]; done), by repeat (first | exact Drawn0.refl _ | apply Drawn0.step)⟩
 }
 {
 rw [if_neg c6] at H
 have c6b0 : (a1 == (rd l0 x8_1)) = false := beq_eq_false_iff_ne.mpr c6
 have c6b1 : (a1 != (rd l0 x8_1)) = true := bne_iff_ne.mpr c6
 have H' := Aside0.mk H
 clear H
 have p515 : 0 ≤ (x8_1 : Int) := dX
 have q515 : x8_1 < (l0.length : Int) := dX
 obtain ⟨ad515, e515, hx515_0⟩ := Kd.at_int HR0.out x8_1 p515 q515
 cases e515
 replace p515 := eq_true p515
 replace q515 := eq_true q515
 go_wp2
 go_roundg k1
 case measure => have := HK1.out; omega
 case rel => exact ⟨(wrap64 (x8_1 + 1)), vX, H', ⟨by have := HK1.out; omega⟩, by repeat (first | exact Drawn0.refl _ | apply Drawn0.step)⟩
 }
 }
 {
 rw [if_neg c5] at H
 exact absurd H (by simp)
 }
 }
 {
 rw [if_neg c4] at H
 exact absurd H (by simp)
 }
 }
 {
 rw [if_neg c3] at H
 have c3b0 : decide (x8_1 < (l0.length : Int)) = false := decide_eq_false c3
 clear c3
 obtain rfl := Option.some.inj H
 go_wp2
 go_ret
 exact ⟨by first | rfl | (simp; done) | (simp [*]; done), by repeat (first | exact Drawn0.refl _ | apply Drawn0.step)⟩
 }

/-! ### slices_Contains_int_int: function 102 -/
def slices_Contains_int_int.f (k : Nat) (l0 : List Int) (a1 : Int) : Option (Bool) := (slices_Index_int_int.f k l0 a1).bind fun t516 => (some (decide (t516 ≥ 0)))
set_option maxHeartbeats 8000000 in
set_option maxRecDepth 100000 in
theorem slices_Contains_int_int.calls (k : Nat) (A0 : Option Addr) (c0 : Nat) (l0 : List Int) (a1 : Int) (r : Bool) (w : World) (hr0 : Kd.C (Kd.int .i64) w A0 l0.length l0) (hc0 : l0.length ≤ c0) (h : slices_Contains_int_int.f k l0 a1 = some r) :
  Calls Tryz.prog 102 #[.slice A0 l0.length c0, .int .i64 a1] w fun e w' => e = .returned (.bool r) ∧ Drawn0 w w' := by
 have HR0 := Aside0.mk hr0
 have HC0 := Aside0.mk hc0
 clear hr0 hc0
 have H : ((slices_Index_int_int.f k l0 a1).bind fun t516 => (some (decide (t516 ≥ 0)))) = some r := h
 clear h
 replace H := Option.bind_eq_some_iff.mp H
 obtain ⟨t516, A30, H⟩ := H
 replace H : (some (decide (t516 ≥ 0))) = some r := H
 have A3 := Aside0.mk A30
 clear A30
 obtain rfl := Option.some.inj H
 go_enter Tryz.func102, Tryz.ntmps102
 go_wp2_with (first | ((with_reducible refine gate_callee (f := 132) rfl ?_); refine goesL_ (some 7) rfl rfl Tryz.func132 (by kernel_rfl) rfl #[.slice A0 l0.length c0, .int .i64 a1] rfl (by (try simp only [List.map_toArray, List.map_cons, List.map_nil]); first | done | rfl | (simp only [List.length_drop, List.length_take]; rfl)) ?_; (with_reducible refine (slices_Index_int_int.calls k _ _ l0 a1 t516 _ ?side1 ?side2 A3.out).mono ?_); (case side1 => exact cX HR0.out); (case side2 => exact HC0.out); rintro e w' ⟨rfl, ⟨nd, rfl⟩⟩; refine ⟨_, rfl, ?_⟩))
 go_ret
 exact ⟨by first | rfl | (simp; done) | (simp [*]; done), by repeat (first | exact Drawn0.refl _ | apply Drawn0.step)⟩

/-! ### impl_rowOf: function 76 -/
def impl_rowOf.l0 : Nat → Int → List (List Int) → Int → Int → Option (List Int)
 | 0, _, _, _, _ => none
 | k + 1, x1, x9, x10, x11 => if x11 < x10 then (if 0 ≤ x11 then (if x11 < (x9.length : Int) then ((slices_Contains_int_int.f k (rd_L2 x9 x11) x1).bind fun t522 => (if t522 = true then (some (rd_L2 x9 x11)) else (impl_rowOf.l0 k x1 x9 x10 (wrap64 (x11 + 1))))) else (none)) else (none)) else (some ([] : List Int))
def impl_rowOf.f (k : Nat) (l0_0 : List Int) (l0_1 : List Int) (a1 : Int) : Option (List Int) := (impl_CyclesOf.f k l0_0).bind fun t518 => (impl_rowOf.l0 k a1 t518 (t518.length : Int) 0)
set_option maxHeartbeats 8000000 in
set_option maxRecDepth 100000 in
theorem impl_rowOf.calls (k : Nat) (A0_0 : Option Addr) (c0_0 : Nat) (l0_0 : List Int) (A0_1 : Option Addr) (c0_1 : Nat) (l0_1 : List Int) (a1 : Int) (r : List Int) (w : World) (hr0_0 : Kd.C (Kd.int .i64) w A0_0 l0_0.length l0_0) (hc0_0 : l0_0.length ≤ c0_0) (hr0_1 : Kd.C (Kd.int .i64) w A0_1 l0_1.length l0_1) (hc0_1 : l0_1.length ≤ c0_1) (h : impl_rowOf.f k l0_0 l0_1 a1 = some r) :
  Calls Tryz.prog 76 #[.agg #[.slice A0_0 l0_0.length c0_0, .slice A0_1 l0_1.length c0_1], .int .i64 a1] w fun e w' => ∃ v0_ : Value, e = .returned (v0_) ∧ Kd.R (Kd.int .i64) 3 w' w.heap.size (fun _ => True) v0_ r ∧ Below w.heap.size w w' := by
 have hu25 := Tryz.underlying25
 have HR0_0 := Aside0.mk hr0_0
 have HC0_0 := Aside0.mk hc0_0
 clear hr0_0 hc0_0
 have HR0_1 := Aside0.mk hr0_1
 have HC0_1 := Aside0.mk hc0_1
 clear hr0_1 hc0_1
 have HB := Aside0.mk (Below.refl w.heap.size w)
 have H : ((impl_CyclesOf.f k l0_0).bind fun t518 => (impl_rowOf.l0 k a1 t518 (t518.length : Int) 0)) = some r := h
 clear h
 replace H := Option.bind_eq_some_iff.mp H
 obtain ⟨t518, A30, H⟩ := H
 replace H : (impl_rowOf.l0 k a1 t518 (t518.length : Int) 0) = some r := H
 have A3 := Aside0.mk A30
 clear A30
 have H' := Aside0.mk H
 clear H
 go_enter Tryz.func76, Tryz.ntmps76
 go_wp2_with (first | ((with_reducible refine gate_dst (N := 2) rfl ?_); refine box_event ?hg (N := 2) ?hd (cs := #[.slice A0_0 l0_0.length c0_0, .slice A0_1 l0_1.length c0_1]) (t := 25) ?hr ?_; (case hd => rfl); (case hg => rfl); (case hr => first | (go_simp; done) | (go_simp; rfl)); intro gb517 hg w4 hbox hb; have n0_ := Aside0.mk (below_step (bX HB.out) hb); have n1_ := Aside0.mk (hbox); have n2_ := Aside0.mk ((szX (below_size (bX HB.out)) hg : w.heap.size ≤ gb517)); have n3_ := Aside0.mk ((szX (below_size (bX HB.out)) hg : w.heap.size ≤ gb517)); clear HB; have HB := n0_; have BK517 := n1_; have GW517 := n2_; have GE517 := n3_; clear n0_ n1_ n2_ n3_ hb hbox hg; have hcz5_0 := cz20 BK517.out; have hcz5_1 := cz21 BK517.out; have hfz5_0 := blk_frozen BK517.out 0; have hfz5_1 := blk_frozen BK517.out 1) | ((with_reducible refine gate_callee (f := 35) rfl ?_); refine goesL_ (some 9) rfl rfl Tryz.func35 (by kernel_rfl) rfl #[.slice A0_0 l0_0.length c0_0] rfl aX ?_; (with_reducible refine (impl_CyclesOf.calls k _ _ l0_0 t518 _ ?side1 ?side2 A3.out).mono ?_); (case side1 => exact cX (Kd.C_below HR0_0.out HB.out)); (case side2 => exact HC0_0.out); rintro e w6 ⟨v519, rfl, ho0, hb⟩; refine ⟨_, rfl, ?_⟩; have n0_ := Aside0.mk (Kd.S_lower ho0 (below_size (bX1 HB.out GE517.out))); have n1_ := Aside0.mk (bbX BK517.out hb); have n2_ := Aside0.mk (below_step (bX1 HB.out GE517.out) hb); clear BK517 HB; have HO520 := n0_; have BK517 := n1_; have HB := n2_; clear n0_ n1_ n2_; (try clear hb); (try clear hb2); (try clear hk); (try clear hi); (try clear ho0); obtain ⟨Ao7, co7, eo7⟩ := Kd.S_slice HO520.out; subst eo7))
 go_loopg [11] k (fun kq v11 w' => ∃ (x11_1 : Int), v11 = .int .i64 x11_1 ∧ Aside0 (impl_rowOf.l0 kq a1 t518 (t518.length : Int) x11_1 = some r) ∧ Aside0 (kq ≤ k) ∧ Aside0 (Kd.S (Kd.slice 3 (Kd.int .i64)) 23 w' w.heap.size (fun _ => True) (.slice Ao7 t518.length co7) t518) ∧ Aside0 (w'.heap[gb517]? = some (.cells #[(.slice A0_0 l0_0.length c0_0), (.slice A0_1 l0_1.length c0_1)] 25 (0, 0))) ∧ Aside0 (Below w.heap.size w w'))
 case atStart => exact ⟨(0), vX, H', ⟨Nat.le_refl _⟩, ⟨by (with_reducible repeat (first | apply Kd.S_alloc | apply Kd.S_drewN | apply Kd.S_drew)); exact HO520.out⟩, ⟨kX BK517.out⟩, ⟨bX1 HB.out GE517.out⟩⟩
 case round =>
 clear H'
 try clear p2
 try clear c3
 try clear c7
 try clear hcz5_0
 try clear hcz5_1
 try clear hfz5_0
 try clear hfz5_1
 obtain ⟨x11_1, rfl, HA, HK1, HO_9, BK517, HB⟩ := hrel
 cases gk with
 | zero => exact absurd HA.out (by simp [impl_rowOf.l0])
 | succ k1 =>
 have H := HA.out
 clear HA
 simp only [impl_rowOf.l0] at H
 by_cases c8 : x11_1 < (t518.length : Int)
 {
 rw [if_pos c8] at H
 have c8b0 : decide (x11_1 < (t518.length : Int)) = true := decide_eq_true c8
 clear c8
 by_cases c9 : 0 ≤ x11_1
 {
 rw [if_pos c9] at H
 have c9b0 : decide (0 ≤ x11_1) = true := decide_eq_true c9
 clear c9
 by_cases c10 : x11_1 < (t518.length : Int)
 {
 rw [if_pos c10] at H
 have c10b0 : decide (x11_1 < (t518.length : Int)) = true := decide_eq_true c10
 clear c10
 replace H := Option.bind_eq_some_iff.mp H
 obtain ⟨t522, A110, H⟩ := H
 replace H : (if t522 = true then (some (rd_L2 t518 x11_1)) else (impl_rowOf.l0 k1 a1 t518 (t518.length : Int) (wrap64 (x11_1 + 1)))) = some r := H
 have A11 := Aside0.mk A110
 clear A110
 by_cases c12 : t522 = true
 {
 subst c12
 have H1 : (some (rd_L2 t518 x11_1)) = some r := by rw [if_pos rfl] at H; exact H
 clear H
 have H := H1
 clear H1
 obtain rfl := Option.some.inj H
 have p521 : 0 ≤ (x11_1 : Int) := dX
 have q521 : x11_1 < (t518.length : Int) := dX
 obtain ⟨ad521, A521_0, c521_0, e521, hx521_0, hl521_0, hi521_0⟩ := at_L2 (Kd.S_reads' HO_9.out).2.2 x11_1 p521 q521
 cases e521
 obtain ⟨ce521, hce521, hMe521, hcc521⟩ := Kd.S_get HO_9.out [] x11_1 p521 (by first | exact q521 | exact dX | (have e_ := (Kd.S_reads' HO_9.out).1; omega))
 obtain ⟨ve521_0, rfl, ge521_0⟩ := hMe521
 have hv521_0 := hcc521 0 _ rfl
 rw [Nat.add_zero, show ((Kd.slice 3 (Kd.int .i64))).sz = 1 from rfl, Nat.mul_one] at hv521_0
 replace hv521_0 := Option.some.inj (hv521_0.symm.trans hx521_0)
 rw [hv521_0] at ge521_0
 have HL521_0 := Aside0.mk (show Kd.R (Kd.int .i64) 3 _ _ _ _ (rd_L2 t518 x11_1) from ge521_0)
 clear hv521_0 ge521_0 hcc521 hce521
 have HR521_0 := Aside0.mk hi521_0
 have HC521_0 := Aside0.mk hl521_0
 clear hi521_0 hl521_0
 replace p521 := eq_true p521
 replace q521 := eq_true q521
 go_wp2_with (first | ((with_reducible refine gate_callee (f := 102) rfl ?_); refine goesL_ (some 17) rfl rfl Tryz.func102 (by kernel_rfl) rfl #[.slice A521_0 (rd_L2 t518 x11_1).length c521_0, .int .i64 a1] rfl aX ?_; (with_reducible refine (slices_Contains_int_int.calls k1 _ _ (rd_L2 t518 x11_1) a1 true _ ?side1 ?side2 A11.out).mono ?_); (case side1 => exact cX (cX HR521_0.out)); (case side2 => exact HC521_0.out); rintro e w' ⟨rfl, ⟨nd, rfl⟩⟩; refine ⟨_, rfl, ?_⟩))
 go_ret
 exact ⟨_, eX, by (with_reducible repeat (first|apply rA|apply rN|apply rD)); exact Kd.R_mono HL521_0.out (fun _ hk => trivial), bX1 HB.out GE517.out⟩
 }
 {
 replace c12 := Bool.eq_false_iff.mpr c12
 subst c12
 have H1 : (impl_rowOf.l0 k1 a1 t518 (t518.length : Int) (wrap64 (x11_1 + 1))) = some r := by rw [if_neg (show ¬ (false = true) by decide)] at H; exact H
 clear H
 have H := H1
 clear H1
 have H' := Aside0.mk H
 clear H
 have p521 : 0 ≤ (x11_1 : Int) := dX
 have q521 : x11_1 < (t518.length : Int) := dX
 obtain ⟨ad521, A521_0, c521_0, e521, hx521_0, hl521_0, hi521_0⟩ := at_L2 (Kd.S_reads' HO_9.out).2.2 x11_1 p521 q521
 cases e521
 obtain ⟨ce521, hce521, hMe521, hcc521⟩ := Kd.S_get HO_9.out [] x11_1 p521 (by first | exact q521 | exact dX | (have e_ := (Kd.S_reads' HO_9.out).1; omega))
 obtain ⟨ve521_0, rfl, ge521_0⟩ := hMe521
 have hv521_0 := hcc521 0 _ rfl
 rw [Nat.add_zero, show ((Kd.slice 3 (Kd.int .i64))).sz = 1 from rfl, Nat.mul_one] at hv521_0
 replace hv521_0 := Option.some.inj (hv521_0.symm.trans hx521_0)
 rw [hv521_0] at ge521_0
 have HL521_0 := Aside0.mk (show Kd.R (Kd.int .i64) 3 _ _ _ _ (rd_L2 t518 x11_1) from ge521_0)
 clear hv521_0 ge521_0 hcc521 hce521
 have HR521_0 := Aside0.mk hi521_0
 have HC521_0 := Aside0.mk hl521_0
 clear hi521_0 hl521_0
 replace p521 := eq_true p521
 replace q521 := eq_true q521
 go_wp2_with (first | ((with_reducible refine gate_callee (f := 102) rfl ?_); refine goesL_ (some 17) rfl rfl Tryz.func102 (by kernel_rfl) rfl #[.slice A521_0 (rd_L2 t518 x11_1).length c521_0, .int .i64 a1] rfl aX ?_; (with_reducible refine (slices_Contains_int_int.calls k1 _ _ (rd_L2 t518 x11_1) a1 false _ ?side1 ?side2 A11.out).mono ?_); (case side1 => exact cX (cX HR521_0.out)); (case side2 => exact HC521_0.out); rintro e w' ⟨rfl, ⟨nd, rfl⟩⟩; refine ⟨_, rfl, ?_⟩))
 go_roundg k1
 case measure => have := HK1.out; omega
 case rel => exact ⟨(wrap64 (x11_1 + 1)), vX, H', ⟨by have := HK1.out; omega⟩, ⟨by (with_reducible repeat (first | apply Kd.S_alloc | apply Kd.S_drewN | apply Kd.S_drew)); exact HO_9.out⟩, ⟨kX BK517.out⟩, ⟨bX1 HB.out GE517.out⟩⟩
 }
 }
 {
 rw [if_neg c10] at H
 exact absurd H (by simp)
 }
 }
 {
 rw [if_neg c9] at H
 exact absurd H (by simp)
 }
 }
 {
 rw [if_neg c8] at H
 have c8b0 : decide (x11_1 < (t518.length : Int)) = false := decide_eq_false c8
 clear c8
 obtain rfl := Option.some.inj H
 go_wp2
 go_ret
 exact ⟨_, eX, by first | exact Kd.R_nil _ _ _ _ _ | exact Kd.N_nil _ _ _ _ _ | exact Kd.V_nil _ _ _ _ _ | exact Kd.Q_nil _ _ _ _ _ | exact Kd.S_nil _ _ _ _ _, bX1 HB.out GE517.out⟩
 }

/-! ### slices_Min_int_int: function 77 -/
/-! by hand -/
def slices_Min_int_int.f (l0 : List Int) : Option (Int) := if 0 < l0.length ∧ l0.length ≤ 1000 then some (Go.Lib.minOf l0) else none
theorem slices_Min_int_int.calls (A0 : Option Addr) (c0 : Nat) (l0 : List Int) (r : Int) (w : World) (hr0 : Kd.C (Kd.int .i64) w A0 l0.length l0) (hc0 : l0.length ≤ c0) (h : slices_Min_int_int.f l0 = some r) :
    Calls Tryz.prog 77 #[.slice A0 l0.length c0] w fun e w' => e = .returned (.int .i64 r) ∧ Drawn0 w w' := by
  unfold slices_Min_int_int.f at h
  by_cases hh : 0 < l0.length ∧ l0.length ≤ 1000
  · rw [if_pos hh] at h
    obtain rfl := Option.some.inj h
    cases l0 with
    | nil => exact absurd hh.1 (by simp)
    | cons x xs =>
      obtain ⟨ad, e, hx⟩ := Kd.at_int hr0 0 (by omega) (by simp)
      subst e
      obtain ⟨b, o, s⟩ := ad
      have hs : s = none := by
        rw [show (⟨b, o, s⟩ : Addr).add (0 : Int).toNat = ⟨b, o, s⟩ from by simp [Addr.add]] at hx
        simp only [World.cell?] at hx
        split at hx
        · cases s with
          | none => rfl
          | some _ => simp at hx
        · cases hx
      obtain rfl := hs
      refine (Tryz.slices_Min_int b o (x :: xs).length c0 (x :: xs) w hh.1 (Nat.le_refl _) (by have := hh.2; omega) ?_).mono ?_
      · intro j hj
        obtain ⟨ad, e, hy⟩ := Kd.at_int hr0 j (by omega) (by omega)
        obtain rfl := Option.some.inj e
        rw [show rd (x :: xs) j = (x :: xs).getD j 0 from by simp [rd]] at hy
        have e2 : (⟨b, o, none⟩ : Addr).add ((j : Int)).toNat = ⟨b, o + j, none⟩ := by cases j <;> simp [Addr.add]
        rw [e2] at hy
        exact hy
      · rintro e w' ⟨rfl, rfl⟩
        rw [List.take_length]
        exact ⟨rfl, Drawn0.refl _⟩
  · rw [if_neg hh] at h
    exact absurd h (by simp)

/-! ### impl_RowAbove: function 36 -/
mutual
def impl_RowAbove.j0 : Nat → Int → Bool → List Int → List Int → Option (Int)
 | 0, _, _, _, _ => none
 | k + 1, x1, x21, x524000, x524001 => if x21 = true then (some (-1)) else ((impl_AroundOf.f k x524000 x524001).bind fun t525 => ((impl_rowOf.f k x524000 x524001 x1).bind fun t528 => (impl_RowAbove.l0 k x1 t525 t528 (t528.length : Int) 0 x524000 x524001)))
def impl_RowAbove.l0 : Nat → Int → List Int → List Int → Int → Int → List Int → List Int → Option (Int)
 | 0, _, _, _, _, _, _, _ => none
 | k + 1, x1, x5, x26, x27, x28, x524000, x524001 => if x28 < x27 then (if 0 ≤ x28 then (if x28 < (x26.length : Int) then (if 0 ≤ (rd x26 x28) then (if (rd x26 x28) < (x5.length : Int) then (if (rd x5 (rd x26 x28)) = (rd x26 x28) then (impl_RowAbove.l0 k x1 x5 x26 x27 (wrap64 (x28 + 1)) x524000 x524001) else (some (-1))) else (none)) else (none)) else (none)) else (none)) else (if 0 ≤ x1 then (if x1 < (x524001.length : Int) then ((impl_rowOf.f k x524000 x524001 (rd x524001 x1)).bind fun t534 => ((slices_Min_int_int.f t534).bind fun t537 => (some t537))) else (none)) else (none))
end
def impl_RowAbove.f (k : Nat) (l0_0 : List Int) (l0_1 : List Int) (a1 : Int) : Option (Int) := (impl_SurfaceOk.f k l0_0 l0_1).bind fun t524 => (if t524 = true then (if a1 < 0 then (impl_RowAbove.j0 k a1 true l0_0 l0_1) else (impl_RowAbove.j0 k a1 (decide (a1 ≥ (l0_0.length : Int))) l0_0 l0_1)) else (impl_RowAbove.j0 k a1 true l0_0 l0_1))
def impl_RowAbove.T10 : Bool × List (List Nat × List Nat) := (true, [([], []), ([], []), ([1], [1]), ([], []), ([2, 3], [2, 3]), ([4], [4]), ([0, 5], [0, 5]), ([6, 6], [6]), ([7, 7, 0, 1, 2, 3, 4, 5, 6, 7], [7])])
def impl_RowAbove.B10 : List Nat := [0, 0, 2, 0, 14, 30, 63, 127, 255]
theorem impl_RowAbove.tab10 : rtab .any (opsOf Tryz.f36 10) = impl_RowAbove.T10 := by kernel_rfl
theorem impl_RowAbove.bits10 : waitsOk impl_RowAbove.T10.2 impl_RowAbove.B10 = true := by kernel_rfl
set_option maxHeartbeats 8000000 in
set_option maxRecDepth 100000 in
theorem impl_RowAbove.calls (k : Nat) (A0_0 : Option Addr) (c0_0 : Nat) (l0_0 : List Int) (A0_1 : Option Addr) (c0_1 : Nat) (l0_1 : List Int) (a1 : Int) (r : Int) (w : World) (hr0_0 : Kd.C (Kd.int .i64) w A0_0 l0_0.length l0_0) (hc0_0 : l0_0.length ≤ c0_0) (hr0_1 : Kd.C (Kd.int .i64) w A0_1 l0_1.length l0_1) (hc0_1 : l0_1.length ≤ c0_1) (h : impl_RowAbove.f k l0_0 l0_1 a1 = some r) :
  Calls Tryz.prog 36 #[.agg #[.slice A0_0 l0_0.length c0_0, .slice A0_1 l0_1.length c0_1], .int .i64 a1] w fun e w' => e = .returned (.int .i64 r) ∧ Below w.heap.size w w' := by
 have hu25 := Tryz.underlying25
 have HR0_0 := Aside0.mk hr0_0
 have HC0_0 := Aside0.mk hc0_0
 clear hr0_0 hc0_0
 have HR0_1 := Aside0.mk hr0_1
 have HC0_1 := Aside0.mk hc0_1
 clear hr0_1 hc0_1
 have HB := Aside0.mk (Below.refl w.heap.size w)
 have H : ((impl_SurfaceOk.f k l0_0 l0_1).bind fun t524 => (if t524 = true then (if a1 < 0 then (impl_RowAbove.j0 k a1 true l0_0 l0_1) else (impl_RowAbove.j0 k a1 (decide (a1 ≥ (l0_0.length : Int))) l0_0 l0_1)) else (impl_RowAbove.j0 k a1 true l0_0 l0_1))) = some r := h
 clear h
 have HC3 := Aside0.mk H
 clear H
 go_enter Tryz.func36, Tryz.ntmps36
 go_upto_region 1 with (first | ((with_reducible refine gate_dst (N := 2) rfl ?_); (try (refine gate_guard (by rfl) ?_; dsimp only)); refine box_event ?hg (N := 2) ?hd (cs := #[.slice A0_0 l0_0.length c0_0, .slice A0_1 l0_1.length c0_1]) (t := 25) ?hr ?_; (case hd => rfl); (case hg => rfl); (case hr => first | (go_simp; done) | (go_simp; rfl)); intro gb523 hg w4 hbox hb; have n0_ := Aside0.mk (below_step (bX HB.out) hb); have n1_ := Aside0.mk (hbox); have n2_ := Aside0.mk ((szX (below_size (bX HB.out)) hg : w.heap.size ≤ gb523)); have n3_ := Aside0.mk ((szX (below_size (bX HB.out)) hg : w.heap.size ≤ gb523)); clear HB; have HB := n0_; have BK523 := n1_; have GW523 := n2_; have GE523 := n3_; clear n0_ n1_ n2_ n3_ hb hbox hg))
 (try simp only [Act.put, List.setIfInBounds_toArray, List.set_cons_zero, List.set_cons_succ])
 go_cut [21] (fun v21 wc => ∃ (kq : Nat) (x21_2 : Bool), v21 = .bool x21_2 ∧ Aside0 (impl_RowAbove.j0 kq a1 x21_2 l0_0 l0_1 = some r) ∧ Aside0 (kq ≤ k) ∧ Aside0 (wc.heap[gb523]? = some (.cells #[(.slice A0_0 l0_0.length c0_0), (.slice A0_1 l0_1.length c0_1)] 25 (0, 0))) ∧ Aside0 (Below w.heap.size w wc))
 case first =>
  have H := HC3.out
  clear HC3
  replace H := Option.bind_eq_some_iff.mp H
  obtain ⟨t524, A50, H⟩ := H
  replace H : (if t524 = true then (if a1 < 0 then (impl_RowAbove.j0 k a1 true l0_0 l0_1) else (impl_RowAbove.j0 k a1 (decide (a1 ≥ (l0_0.length : Int))) l0_0 l0_1)) else (impl_RowAbove.j0 k a1 true l0_0 l0_1)) = some r := H
  have A5 := Aside0.mk A50
  clear A50
  by_cases c6 : t524 = true
  {
  subst c6
  have H1 : (if a1 < 0 then (impl_RowAbove.j0 k a1 true l0_0 l0_1) else (impl_RowAbove.j0 k a1 (decide (a1 ≥ (l0_0.length : Int))) l0_0 l0_1)) = some r := by rw [if_pos rfl] at H; exact H
  clear H
  have H := H1
  clear H1
  by_cases c7 : a1 < 0
  {
  rw [if_pos c7] at H
  have c7b0 : decide (a1 < 0) = true := decide_eq_true c7
  clear c7
  (first | rw [c7b0] | (simp only [i64_w, i32_w]; rw [c7b0]) | skip)
  have H' := Aside0.mk H
  clear H
  have hcz8_0 := cz20 BK523.out
  have hcz8_1 := cz21 BK523.out
  have hfz8_0 := blk_frozen BK523.out 0
  have hfz8_1 := blk_frozen BK523.out 1
  go_wp2_with (first | ((with_reducible refine gate_callee (f := 31) rfl ?_); refine goesL_ (some 9) rfl rfl Tryz.func31 (by kernel_rfl) rfl #[.agg #[.slice A0_0 l0_0.length c0_0, .slice A0_1 l0_1.length c0_1]] rfl aX ?_; (with_reducible refine (impl_SurfaceOk.calls k _ _ l0_0 _ _ l0_1 true _ ?side1 ?side2 ?side3 ?side4 A5.out).mono ?_); (case side1 => exact cX (Kd.C_below HR0_0.out HB.out)); (case side2 => exact HC0_0.out); (case side3 => exact cX (Kd.C_below HR0_1.out HB.out)); (case side4 => exact HC0_1.out); rintro e w9 ⟨rfl, hb⟩; refine ⟨_, rfl, ?_⟩; have n0_ := Aside0.mk (bbX BK523.out hb); have n1_ := Aside0.mk (below_step (bX1 HB.out GE523.out) hb); clear BK523 HB; have BK523 := n0_; have HB := n1_; clear n0_ n1_; (try clear hb); (try clear hb2); (try clear hk); (try clear hi)))
  go_meet
  case rel => exact ⟨_, (true), vX, H', ⟨by first | omega | exact Nat.le_refl _⟩, ⟨kX BK523.out⟩, ⟨bX1 HB.out GE523.out⟩⟩
  }
  {
  rw [if_neg c7] at H
  have c7b0 : decide (a1 < 0) = false := decide_eq_false c7
  clear c7
  (first | rw [c7b0] | (simp only [i64_w, i32_w]; rw [c7b0]) | skip)
  have H' := Aside0.mk H
  clear H
  have hcz10_0 := cz20 BK523.out
  have hcz10_1 := cz21 BK523.out
  have hfz10_0 := blk_frozen BK523.out 0
  have hfz10_1 := blk_frozen BK523.out 1
  go_wp2_with (first | ((with_reducible refine gate_callee (f := 31) rfl ?_); refine goesL_ (some 9) rfl rfl Tryz.func31 (by kernel_rfl) rfl #[.agg #[.slice A0_0 l0_0.length c0_0, .slice A0_1 l0_1.length c0_1]] rfl aX ?_; (with_reducible refine (impl_SurfaceOk.calls k _ _ l0_0 _ _ l0_1 true _ ?side1 ?side2 ?side3 ?side4 A5.out).mono ?_); (case side1 => exact cX (Kd.C_below HR0_0.out HB.out)); (case side2 => exact HC0_0.out); (case side3 => exact cX (Kd.C_below HR0_1.out HB.out)); (case side4 => exact HC0_1.out); rintro e w11 ⟨rfl, hb⟩; refine ⟨_, rfl, ?_⟩; have n0_ := Aside0.mk (bbX BK523.out hb); have n1_ := Aside0.mk (below_step (bX1 HB.out GE523.out) hb); clear BK523 HB; have BK523 := n0_; have HB := n1_; clear n0_ n1_; (try clear hb); (try clear hb2); (try clear hk); (try clear hi); have hcz12_0 := cz20 BK523.out; have hcz12_1 := cz21 BK523.out; have hfz12_0 := blk_frozen BK523.out 0; have hfz12_1 := blk_frozen BK523.out 1))
  go_meet
  case rel => exact ⟨_, (decide (a1 ≥ (l0_0.length : Int))), vX, H', ⟨by first | omega | exact Nat.le_refl _⟩, ⟨kX BK523.out⟩, ⟨bX1 HB.out GE523.out⟩⟩
  }
  }
  {
  replace c6 := Bool.eq_false_iff.mpr c6
  subst c6
  have H1 : (impl_RowAbove.j0 k a1 true l0_0 l0_1) = some r := by rw [if_neg (show ¬ (false = true) by decide)] at H; exact H
  clear H
  have H := H1
  clear H1
  have H' := Aside0.mk H
  clear H
  have hcz13_0 := cz20 BK523.out
  have hcz13_1 := cz21 BK523.out
  have hfz13_0 := blk_frozen BK523.out 0
  have hfz13_1 := blk_frozen BK523.out 1
  go_wp2_with (first | ((with_reducible refine gate_callee (f := 31) rfl ?_); refine goesL_ (some 9) rfl rfl Tryz.func31 (by kernel_rfl) rfl #[.agg #[.slice A0_0 l0_0.length c0_0, .slice A0_1 l0_1.length c0_1]] rfl aX ?_; (with_reducible refine (impl_SurfaceOk.calls k _ _ l0_0 _ _ l0_1 false _ ?side1 ?side2 ?side3 ?side4 A5.out).mono ?_); (case side1 => exact cX (Kd.C_below HR0_0.out HB.out)); (case side2 => exact HC0_0.out); (case side3 => exact cX (Kd.C_below HR0_1.out HB.out)); (case side4 => exact HC0_1.out); rintro e w14 ⟨rfl, hb⟩; refine ⟨_, rfl, ?_⟩; have n0_ := Aside0.mk (bbX BK523.out hb); have n1_ := Aside0.mk (below_step (bX1 HB.out GE523.out) hb); clear BK523 HB; have BK523 := n0_; have HB := n1_; clear n0_ n1_; (try clear hb); (try clear hb2); (try clear hk); (try clear hi)))
  go_meet
  case rel => exact ⟨_, (true), vX, H', ⟨by first | omega | exact Nat.le_refl _⟩, ⟨kX BK523.out⟩, ⟨bX1 HB.out GE523.out⟩⟩
  }
 case rest =>
 clear HC3
 try clear p2
 try clear c3
 try clear c6
 try clear c7
 try clear c7b0
 try clear hcz10_0
 try clear hcz10_1
 try clear hcz12_0
 try clear hcz12_1
 try clear hcz13_0
 try clear hcz13_1
 try clear hcz8_0
 try clear hcz8_1
 try clear hfz10_0
 try clear hfz10_1
 try clear hfz12_0
 try clear hfz12_1
 try clear hfz13_0
 try clear hfz13_1
 try clear hfz8_0
 try clear hfz8_1
 obtain ⟨kq, x21_2, rfl, HA, HJ2, BK523, HB⟩ := hcut
 cases kq with
 | zero => exact absurd HA.out (by simp [impl_RowAbove.j0])
 | succ kj2 =>
 have H := HA.out
 clear HA
 simp only [impl_RowAbove.j0] at H
 by_cases c15 : x21_2 = true
 {
 subst c15
 have H1 : (some (-1)) = some r := by rw [if_pos rfl] at H; exact H
 clear H
 have H := H1
 clear H1
 obtain rfl := Option.some.inj H
 go_wp2
 go_ret
 exact ⟨eX, bX1 HB.out GE523.out⟩
 }
 {
 replace c15 := Bool.eq_false_iff.mpr c15
 subst c15
 have H1 : ((impl_AroundOf.f kj2 l0_0 l0_1).bind fun t525 => ((impl_rowOf.f kj2 l0_0 l0_1 a1).bind fun t528 => (impl_RowAbove.l0 kj2 a1 t525 t528 (t528.length : Int) 0 l0_0 l0_1))) = some r := by rw [if_neg (show ¬ (false = true) by decide)] at H; exact H
 clear H
 have H := H1
 clear H1
 replace H := Option.bind_eq_some_iff.mp H
 obtain ⟨t525, A160, H⟩ := H
 replace H : ((impl_rowOf.f kj2 l0_0 l0_1 a1).bind fun t528 => (impl_RowAbove.l0 kj2 a1 t525 t528 (t528.length : Int) 0 l0_0 l0_1)) = some r := H
 have A16 := Aside0.mk A160
 clear A160
 replace H := Option.bind_eq_some_iff.mp H
 obtain ⟨t528, A170, H⟩ := H
 replace H : (impl_RowAbove.l0 kj2 a1 t525 t528 (t528.length : Int) 0 l0_0 l0_1) = some r := H
 have A17 := Aside0.mk A170
 clear A170
 have H' := Aside0.mk H
 clear H
 have hcz18_0 := cz20 BK523.out
 have hcz18_1 := cz21 BK523.out
 have hfz18_0 := blk_frozen BK523.out 0
 have hfz18_1 := blk_frozen BK523.out 1
 go_wp2_with (first | ((with_reducible refine gate_callee (f := 75) rfl ?_); refine goesL_ (some 23) rfl rfl Tryz.func75 (by kernel_rfl) rfl #[.agg #[.slice A0_0 l0_0.length c0_0, .slice A0_1 l0_1.length c0_1]] rfl aX ?_; (with_reducible refine (impl_AroundOf.calls kj2 _ _ l0_0 _ _ l0_1 t525 _ ?side1 ?side2 ?side3 ?side4 A16.out).mono ?_); (case side1 => exact cX (Kd.C_below HR0_0.out HB.out)); (case side2 => exact HC0_0.out); (case side3 => exact cX (Kd.C_below HR0_1.out HB.out)); (case side4 => exact HC0_1.out); rintro e w19 ⟨v526, rfl, ho0, hb⟩; refine ⟨_, rfl, ?_⟩; have n0_ := Aside0.mk (Kd.R_lower ho0 (below_size (bX1 HB.out GE523.out))); have n1_ := Aside0.mk (bbX BK523.out hb); have n2_ := Aside0.mk (below_step (bX1 HB.out GE523.out) hb); clear BK523 HB; have HO527 := n0_; have BK523 := n1_; have HB := n2_; clear n0_ n1_ n2_; (try clear hb); (try clear hb2); (try clear hk); (try clear hi); (try clear ho0); have hcz20_0 := cz20 BK523.out; have hcz20_1 := cz21 BK523.out; have hfz20_0 := blk_frozen BK523.out 0; have hfz20_1 := blk_frozen BK523.out 1) | ((with_reducible refine gate_callee (f := 76) rfl ?_); refine goesL_ (some 26) rfl rfl Tryz.func76 (by kernel_rfl) rfl #[.agg #[.slice A0_0 l0_0.length c0_0, .slice A0_1 l0_1.length c0_1], .int .i64 a1] rfl aX ?_; (with_reducible refine (impl_rowOf.calls kj2 _ _ l0_0 _ _ l0_1 a1 t528 _ ?side1 ?side2 ?side3 ?side4 A17.out).mono ?_); (case side1 => exact cX (Kd.C_below HR0_0.out HB.out)); (case side2 => exact HC0_0.out); (case side3 => exact cX (Kd.C_below HR0_1.out HB.out)); (case side4 => exact HC0_1.out); rintro e w21 ⟨v529, rfl, ho0, hb⟩; refine ⟨_, rfl, ?_⟩; have n0_ := Aside0.mk (Kd.R_elder' (rX HO527.out) (Kd.R_base ho0) hb); have n1_ := Aside0.mk (Kd.R_lower (Kd.R_new' ho0 (Kd.R_lt (rX HO527.out))) (below_size (bX1 HB.out GE523.out))); have n2_ := Aside0.mk (bbX BK523.out hb); have n3_ := Aside0.mk (below_step (bX1 HB.out GE523.out) hb); clear HO527 BK523 HB; have HO527 := n0_; have HO530 := n1_; have BK523 := n2_; have HB := n3_; clear n0_ n1_ n2_ n3_; (try clear hb); (try clear hb2); (try clear hk); (try clear hi); (try clear ho0); obtain ⟨Ao22, co22, eo22⟩ := Kd.R_slice HO530.out; subst eo22))
 go_loopg [28] kj2 (fun kq v28 w' => ∃ (x28_2 : Int), v28 = .int .i64 x28_2 ∧ Aside0 (impl_RowAbove.l0 kq a1 t525 t528 (t528.length : Int) x28_2 l0_0 l0_1 = some r) ∧ Aside0 (kq ≤ kj2) ∧ Aside0 (Kd.R (Kd.int .i64) 3 w' w.heap.size (fun k_ => some k_ ≠ ((.slice Ao22 t528.length co22) : Value).ownBlock) v526 t525) ∧ Aside0 (Kd.R (Kd.int .i64) 3 w' w.heap.size (fun k_ => some k_ ≠ (v526 : Value).ownBlock) (.slice Ao22 t528.length co22) t528) ∧ Aside0 (w'.heap[gb523]? = some (.cells #[(.slice A0_0 l0_0.length c0_0), (.slice A0_1 l0_1.length c0_1)] 25 (0, 0))) ∧ Aside0 (Below w.heap.size w w'))
 case atStart => exact ⟨(0), vX, H', ⟨Nat.le_refl _⟩, ⟨rM HO527.out (fun _ hk => hk.2)⟩, ⟨rM HO530.out (fun _ hk => hk.2)⟩, ⟨kX BK523.out⟩, ⟨bX1 HB.out GE523.out⟩⟩
 case round =>
 clear H'
 try clear c1
 try clear p2
 try clear c3
 try clear c6
 try clear c7
 try clear c7b0
 try clear c15
 try clear hcz10_0
 try clear hcz10_1
 try clear hcz12_0
 try clear hcz12_1
 try clear hcz13_0
 try clear hcz13_1
 try clear hcz18_0
 try clear hcz18_1
 try clear hcz20_0
 try clear hcz20_1
 try clear hcz8_0
 try clear hcz8_1
 try clear hfz10_0
 try clear hfz10_1
 try clear hfz12_0
 try clear hfz12_1
 try clear hfz13_0
 try clear hfz13_1
 try clear hfz18_0
 try clear hfz18_1
 try clear hfz20_0
 try clear hfz20_1
 try clear hfz8_0
 try clear hfz8_1
 try clear p2
 obtain ⟨x28_2, rfl, HA, HK2, HO_5, HO_26, BK523, HB⟩ := hrel
 cases gk with
 | zero => exact absurd HA.out (by simp [impl_RowAbove.l0])
 | succ k2 =>
 have H := HA.out
 clear HA
 simp only [impl_RowAbove.l0] at H
 by_cases c23 : x28_2 < (t528.length : Int)
 {
 rw [if_pos c23] at H
 have c23b0 : decide (x28_2 < (t528.length : Int)) = true := decide_eq_true c23
 clear c23
 by_cases c24 : 0 ≤ x28_2
 {
 rw [if_pos c24] at H
 have c24b0 : decide (0 ≤ x28_2) = true := decide_eq_true c24
 clear c24
 by_cases c25 : x28_2 < (t528.length : Int)
 {
 rw [if_pos c25] at H
 have c25b0 : decide (x28_2 < (t528.length : Int)) = true := decide_eq_true c25
 clear c25
 by_cases c26 : 0 ≤ (rd t528 x28_2)
 {
 rw [if_pos c26] at H
 have c26b0 : decide (0 ≤ (rd t528 x28_2)) = true := decide_eq_true c26
 clear c26
 by_cases c27 : (rd t528 x28_2) < (t525.length : Int)
 {
 rw [if_pos c27] at H
 have c27b0 : decide ((rd t528 x28_2) < (t525.length : Int)) = true := decide_eq_true c27
 clear c27
 by_cases c28 : (rd t525 (rd t528 x28_2)) = (rd t528 x28_2)
 {
 rw [if_pos c28] at H
 have c28b0 : ((rd t525 (rd t528 x28_2)) == (rd t528 x28_2)) = true := beq_iff_eq.mpr c28
 have c28b1 : ((rd t525 (rd t528 x28_2)) != (rd t528 x28_2)) = false := bne_eq_false_iff_eq.mpr c28
 clear c28
 have H' := Aside0.mk H
 clear H
 have p531 : 0 ≤ (x28_2 : Int) := dX
 have q531 : x28_2 < (t528.length : Int) := dX
 obtain ⟨ad531, e531, hx531_0⟩ := Kd.at_int (Kd.R_reads' HO_26.out).2.2 x28_2 p531 q531
 cases e531
 replace p531 := eq_true p531
 replace q531 := eq_true q531
 obtain ⟨Ao29, co29, eo29⟩ := Kd.R_slice HO_5.out
 subst eo29
 have p532 : 0 ≤ ((rd t528 x28_2) : Int) := dX
 have q532 : (rd t528 x28_2) < (t525.length : Int) := dX
 obtain ⟨ad532, e532, hx532_0⟩ := Kd.at_int (Kd.R_reads' HO_5.out).2.2 (rd t528 x28_2) p532 q532
 cases e532
 replace p532 := eq_true p532
 replace q532 := eq_true q532
 go_wp2
 go_roundg k2
 case measure => have := HJ2.out; have := HK2.out; omega
 case rel => exact ⟨(wrap64 (x28_2 + 1)), vX, H', ⟨by have := HJ2.out; have := HK2.out; omega⟩, ⟨rX HO_5.out⟩, ⟨rX HO_26.out⟩, ⟨kX BK523.out⟩, ⟨bX1 HB.out GE523.out⟩⟩
 }
 {
 rw [if_neg c28] at H
 have c28b0 : ((rd t525 (rd t528 x28_2)) == (rd t528 x28_2)) = false := beq_eq_false_iff_ne.mpr c28
 have c28b1 : ((rd t525 (rd t528 x28_2)) != (rd t528 x28_2)) = true := bne_iff_ne.mpr c28
 obtain rfl := Option.some.inj H
 have p531 : 0 ≤ (x28_2 : Int) := dX
 have q531 : x28_2 < (t528.length : Int) := dX
 obtain ⟨ad531, e531, hx531_0⟩ := Kd.at_int (Kd.R_reads' HO_26.out).2.2 x28_2 p531 q531
 cases e531
 replace p531 := eq_true p531
 replace q531 := eq_true q531
 obtain ⟨Ao30, co30, eo30⟩ := Kd.R_slice HO_5.out
 subst eo30
 have p532 : 0 ≤ ((rd t528 x28_2) : Int) := dX
 have q532 : (rd t528 x28_2) < (t525.length : Int) := dX
 obtain ⟨ad532, e532, hx532_0⟩ := Kd.at_int (Kd.R_reads' HO_5.out).2.2 (rd t528 x28_2) p532 q532
 cases e532
 replace p532 := eq_true p532
 replace q532 := eq_true q532
 go_wp2
 go_ret
 exact ⟨eX, bX1 HB.out GE523.out⟩
 }
 }
 {
 rw [if_neg c27] at H
 exact absurd H (by simp)
 }
 }
 {
 rw [if_neg c26] at H
 exact absurd H (by simp)
 }
 }
 {
 rw [if_neg c25] at H
 exact absurd H (by simp)
 }
 }
 {
 rw [if_neg c24] at H
 exact absurd H (by simp)
 }
 }
 {
 rw [if_neg c23] at H
 have c23b0 : decide (x28_2 < (t528.length : Int)) = false := decide_eq_false c23
 clear c23
 by_cases c31 : 0 ≤ a1
 {
 rw [if_pos c31] at H
 have c31b0 : decide (0 ≤ a1) = true := decide_eq_true c31
 clear c31
 by_cases c32 : a1 < (l0_1.length : Int)
 {
 rw [if_pos c32] at H
 have c32b0 : decide (a1 < (l0_1.length : Int)) = true := decide_eq_true c32
 clear c32
 replace H := Option.bind_eq_some_iff.mp H
 obtain ⟨t534, A330, H⟩ := H
 replace H : ((slices_Min_int_int.f t534).bind fun t537 => (some t537)) = some r := H
 have A33 := Aside0.mk A330
 clear A330
 replace H := Option.bind_eq_some_iff.mp H
 obtain ⟨t537, A340, H⟩ := H
 replace H : (some t537) = some r := H
 have A34 := Aside0.mk A340
 clear A340
 obtain rfl := Option.some.inj H
 try go_wp2
 have n0_ := Aside0.mk (Kd.R_drew HO_5.out)
 have n1_ := Aside0.mk (Kd.R_drew HO_26.out)
 have n2_ := Aside0.mk (blk_drew BK523.out)
 have n3_ := Aside0.mk (below_drew1 HB.out)
 clear HO_5 HO_26 BK523 HB
 have HO_5 := n0_
 have HO_26 := n1_
 have BK523 := n2_
 have HB := n3_
 clear n0_ n1_ n2_ n3_
 have p533 : 0 ≤ (a1 : Int) := dX
 have q533 : a1 < (l0_1.length : Int) := dX
 obtain ⟨ad533, e533, hx533_0⟩ := Kd.at_int HR0_1.out a1 p533 q533
 have hw533_0 := hx533_0
 cases e533
 replace hx533_0 := (HB.out.cell (World.block_lt_of_cell? w _ hx533_0)).trans hx533_0
 replace p533 := eq_true p533
 replace q533 := eq_true q533
 refine start_ (n := 9) (S := fun w' => w'.cell? ⟨gb523, 0, none⟩ = some (.slice A0_0 l0_0.length c0_0) ∧ w'.cell? ⟨gb523, 1, none⟩ = some (.slice (some ad533) l0_1.length c0_1) ∧ w'.cell? (ad533.add (a1).toNat) = some (.int .i64 (rd l0_1 a1))) (ds := []) #[ff,ff,ff,ff,ff,ff,ff,ff,ff] (by kernel_rfl) rfl rfl ⟨cz20 BK523.out, cz21 BK523.out, ((HB.out.cell (World.block_lt_of_cell? w _ hw533_0)).trans hw533_0)⟩ (fun hHeld => ?_); refine with_tabW impl_RowAbove.tab10 impl_RowAbove.bits10 (fun HT_ HW_ => ?_)
 generalize wr.drew = w35 at HO_5 HO_26 BK523 HB hx533_0 hHeld ⊢
 refine pX 1 40 (fl 9 2) rfl rfl HT_.out ?_
 refine pX 3 42 (fl 9 10) rfl rfl HT_.out ?_
 refine tX3 0 39 (fl 9 11) rfl rfl HT_.out HW_.out hHeld ?_
 refine tX3 2 41 (fl 9 15) rfl rfl HT_.out HW_.out hHeld ?_
 refine pX 4 43 (fl 9 31) rfl rfl HT_.out ?_
 refine tX3 5 44 (fl 9 63) rfl rfl HT_.out HW_.out hHeld ?_
 refine one_ (i := 6) (N := some 45) #[tt,tt,tt,tt,tt,tt,tt,ff,ff] rfl rfl (one_of HT_.out (by kernel_rfl)) (by decide) (fun K hK => ?_)
 refine goes_ Tryz.func76 (by kernel_rfl) rfl #[.agg #[.slice A0_0 l0_0.length c0_0, .slice (some ad533) l0_1.length c0_1], .int .i64 (rd l0_1 a1)] (by rfl) rfl rfl aX ?_
 with_reducible refine (impl_rowOf.calls k2 _ _ l0_0 _ _ l0_1 (rd l0_1 a1) t534 _ ?side1 ?side2 ?side3 ?side4 A33.out).mono ?_
 (case side1 => exact cX (Kd.C_below HR0_0.out HB.out))
 (case side2 => exact HC0_0.out)
 (case side3 => exact cX (Kd.C_below HR0_1.out HB.out))
 (case side4 => exact HC0_1.out)
 rintro e w36 ⟨v535, rfl, ho0, hb⟩
 refine ⟨_, rfl, ?_⟩
 have n0_ := Aside0.mk (Kd.R_elder' (rX HO_5.out) (Kd.R_base ho0) hb)
 have n1_ := Aside0.mk (Kd.R_elder' (rX HO_26.out) (Kd.R_base ho0) hb)
 have n2_ := Aside0.mk (Kd.R_lower (Kd.R_new' (Kd.R_new' ho0 (Kd.R_lt (rX HO_5.out))) (Kd.R_lt (rX HO_26.out))) (below_size (bX1 HB.out GE523.out)))
 have n3_ := Aside0.mk (bbX BK523.out hb)
 have n4_ := Aside0.mk (below_step (bX1 HB.out GE523.out) hb)
 clear HO_5 HO_26 BK523 HB
 have HO_5 := n0_
 have HO_26 := n1_
 have HO536 := n2_
 have BK523 := n3_
 have HB := n4_
 clear n0_ n1_ n2_ n3_ n4_
 (try clear hb)
 (try clear hb2)
 (try clear hk)
 (try clear hi)
 (try clear ho0)
 obtain ⟨Ao37, co37, eo37⟩ := Kd.R_slice HO536.out
 (first | subst eo37 | (injection eo37 with f1_ f2_ f3_; have f4_ := f1_.symm; have f5_ := f3_.symm; clear f1_ f2_ f3_; subst f4_; subst f5_))
 refine hK.out _ _ ⟨cz20 BK523.out, cz21 BK523.out, ((HB.out.cell (World.block_lt_of_cell? w _ hw533_0)).trans hw533_0)⟩ (fun hHeld => ?_)
 clear hK K
 refine norm_ (a' := ?_) ?_ ?_
 rotate_left
 {
 show Act.put _ (some 45) _ = _
 simp only [Act.put, zA, zB, zC, i64_w, i32_w]
 rfl
 }
 refine one_ (i := 7) (N := some 46) #[tt,tt,tt,tt,tt,tt,tt,tt,ff] rfl rfl (one_of HT_.out (by kernel_rfl)) (by decide) (fun K hK => ?_)
 refine goes_ Tryz.func77 (by kernel_rfl) rfl #[.slice Ao37 t534.length co37] (by rfl) rfl rfl aX ?_
 with_reducible refine (slices_Min_int_int.calls _ _ t534 t537 _ ?side1 ?side2 A34.out).mono ?_
 (case side1 => exact cX (Kd.R_reads' HO536.out).2.2)
 (case side2 => exact (Kd.R_reads' HO536.out).2.1)
 rintro e w' ⟨rfl, ⟨nd, rfl⟩⟩
 refine ⟨_, rfl, ?_⟩
 refine hK.out _ _ ⟨cz20 BK523.out, cz21 BK523.out, ((HB.out.cell (World.block_lt_of_cell? w _ hw533_0)).trans hw533_0)⟩ (fun hHeld => ?_)
 clear hK K
 refine norm_ (a' := ?_) ?_ ?_
 rotate_left
 {
 show Act.put _ (some 46) _ = _
 simp only [Act.put, zA, zB, zC, i64_w, i32_w]
 rfl
 }
 refine pX 8 4 (fl 9 511) rfl rfl HT_.out ?_
 refine done_ (done_of HT_.out (by kernel_rfl)) ?_
 try go_wp2
 go_ret
 exact ⟨eX, bX1 HB.out GE523.out⟩
 }
 {
 rw [if_neg c32] at H
 exact absurd H (by simp)
 }
 }
 {
 rw [if_neg c31] at H
 exact absurd H (by simp)
 }
 }
 }

/-! ### slices_IndexFunc_int_int: function 37 -/
/-! by hand -/
/-- A row that is not empty, as it lies in a world. -/
structure QRow where
  ad : Addr
  n : Nat
  c : Nat
  v : Int
def QIn (w : World) : Type := {q : QRow // w.cell? q.ad = some (.int .i64 q.v) ∧ 0 < q.n}
def qEnc (w : World) (q : QIn w) : Value := .slice (some q.1.ad) q.1.n q.1.c
def idxRow (a : Int) : List (List Int) → Nat → Int
  | [], _ => -1
  | y :: l, i => if y.headD 0 = a then (i : Int) else idxRow a l (i + 1)
def slices_IndexFunc_int_int.f (l0 : List (List Int)) (a1 : Int) : Option (Int) := if (∀ y ∈ l0, y ≠ []) ∧ l0.length ≤ 1000 then some (idxRow a1 l0 0) else none
theorem cyl_pred (gx : Nat) (x : Int) (w : World) (hx : w.heap[gx]? = some (.cells #[.int .i64 x] 3 (0, 0))) : PredAt Tryz.prog 38 #[.pointer (some ⟨gx, 0, none⟩)] (qEnc w) (fun q => decide (q.1.v = x)) w := fun W q hb => by
  have hc : W.cell? ⟨gx, 0, none⟩ = some (.int .i64 x) := (hb.cell (p := ⟨gx, 0, none⟩) (blk_lt hx)).trans ((blk_cell hx 0).trans rfl)
  have hr : W.cell? q.1.ad = some (.int .i64 q.1.v) := (hb.cell (World.block_lt_of_cell? _ _ q.2.1)).trans q.2.1
  obtain ⟨⟨ad, n, c, v⟩, hq, hn⟩ := q
  have hn' : 0 < n := hn
  have hn2 : decide (0 < n) = true := decide_eq_true hn'
  have hn3 : (0 < n) = True := eq_true hn'
  show Calls Tryz.prog 38 #[.slice (some ad) n c, .pointer (some ⟨gx, 0, none⟩)] W _
  replace hr : W.cell? ad = some (.int .i64 v) := hr
  go_enter Tryz.func38, Tryz.ntmps38
  go_wp2
  refine start_ (n := 6) (S := fun w' => w'.cell? ad = some (.int .i64 v) ∧ w'.cell? ⟨gx, 0, none⟩ = some (.int .i64 x)) (ds := []) #[false, false, false, false, false, false] (by kernel_rfl) rfl rfl ⟨hr, hc⟩ (fun hHeld => ?_)
  refine pure_ (i := 0) (N := some 4) (v := ?_) (a' := ?_) #[true, false, false, false, false, false] rfl rfl (by kernel_rfl) (fun _ _ _ h => h) (Or.inl ⟨by kernel_rfl, ?_⟩) ?_ ?_
  rotate_left
  · intro w'
    go_simp
    with_reducible rfl
  rotate_left
  · simp only [Act.put, List.setIfInBounds_toArray, List.set_cons_zero, List.set_cons_succ, i64_w, i32_w]
    rfl
  refine pure_ (i := 1) (N := some 5) (v := ?_) (a' := ?_) #[true, true, false, false, false, false] rfl rfl (by kernel_rfl) (fun _ _ _ h => h) (Or.inl ⟨by kernel_rfl, ?_⟩) ?_ ?_
  rotate_left
  · intro w'
    go_simp
    with_reducible rfl
  rotate_left
  · simp only [Act.put, List.setIfInBounds_toArray, List.set_cons_zero, List.set_cons_succ, i64_w, i32_w]
    rfl
  refine take_ (i := 2) (N := some 6) (v := ?_) (a' := ?_) #[true, true, true, false, false, false] rfl rfl (by kernel_rfl) (fun _ _ _ h => h) (Or.inl ⟨by kernel_rfl, ?_⟩) hHeld ?_ ?_
  rotate_left
  · rintro w' ⟨s0, s1⟩
    go_simp
    with_reducible rfl
  rotate_left
  · simp only [Act.put, List.setIfInBounds_toArray, List.set_cons_zero, List.set_cons_succ, i64_w, i32_w]
    rfl
  refine take_ (i := 3) (N := some 7) (v := ?_) (a' := ?_) #[true, true, true, true, false, false] rfl rfl (by kernel_rfl) (fun _ _ _ h => h) (Or.inl ⟨by kernel_rfl, ?_⟩) hHeld ?_ ?_
  rotate_left
  · rintro w' ⟨s0, s1⟩
    go_simp
    with_reducible rfl
  rotate_left
  · simp only [Act.put, List.setIfInBounds_toArray, List.set_cons_zero, List.set_cons_succ, i64_w, i32_w]
    rfl
  refine pure_ (i := 4) (N := some 8) (v := ?_) (a' := ?_) #[true, true, true, true, true, false] rfl rfl (by kernel_rfl) (fun _ _ _ h => h) (Or.inl ⟨by kernel_rfl, ?_⟩) ?_ ?_
  rotate_left
  · intro w'
    go_simp
    with_reducible rfl
  rotate_left
  · simp only [Act.put, List.setIfInBounds_toArray, List.set_cons_zero, List.set_cons_succ, i64_w, i32_w]
    rfl
  refine pure_ (i := 5) (N := some 3) (v := ?_) (a' := ?_) #[true, true, true, true, true, true] rfl rfl (by kernel_rfl) (fun _ _ _ h => h) (Or.inl ⟨by kernel_rfl, ?_⟩) ?_ ?_
  rotate_left
  · intro w'
    go_simp
    with_reducible rfl
  rotate_left
  · simp only [Act.put, List.setIfInBounds_toArray, List.set_cons_zero, List.set_cons_succ, i64_w, i32_w]
    rfl
  refine done_ (by kernel_rfl) ?_
  go_wp2
  go_ret
  have hbe : (v == x) = decide (v = x) := by by_cases c_ : v = x <;> simp [c_]
  exact ⟨by rw [hbe]; rfl, 1, rfl⟩
theorem idx_map (w : World) (a : Int) : ∀ (zs : List (QIn w)) (ys : List (List Int)) (i : Nat) (d : QIn w), zs.map (fun q => q.1.v) = ys.map (fun y => y.headD 0) → Go.Lib.idxByFrom (fun _ (y : QIn w) => decide (y.1.v = a)) d zs i = idxRow a ys i
  | [], [], _, _, _ => rfl
  | [], _ :: _, _, _, h => by simp at h
  | _ :: _, [], _, _, h => by simp at h
  | z :: zs, y :: ys, i, d, h => by
    simp only [List.map_cons, List.cons.injEq] at h
    unfold Go.Lib.idxByFrom idxRow
    rw [idx_map w a zs ys (i + 1) d h.2]
    rw [h.1]
    by_cases c : y.headD 0 = a <;> simp [c]
theorem slices_IndexFunc_int_int.calls (gx : Nat) (A0 : Option Addr) (c0 : Nat) (l0 : List (List Int)) (a1 : Int) (r : Int) (w : World) (hr0 : Kd.C (Kd.slice 3 (Kd.int .i64)) w A0 l0.length l0) (hc0 : l0.length ≤ c0) (hx : w.heap[gx]? = some (.cells #[.int .i64 a1] 3 (0, 0))) (h : slices_IndexFunc_int_int.f l0 a1 = some r) :
    Calls Tryz.prog 37 #[.slice A0 l0.length c0, .func (.func 38) #[] #[.pointer (some ⟨gx, 0, none⟩)]] w fun e w' => e = .returned (.int .i64 r) ∧ Drawn0 w w' := by
  unfold slices_IndexFunc_int_int.f at h
  by_cases hh : (∀ y ∈ l0, y ≠ []) ∧ l0.length ≤ 1000
  · rw [if_pos hh] at h
    obtain rfl := Option.some.inj h
    by_cases hz : l0 = []
    · subst hz
      refine (Tryz.slices_IndexFunc_empty (α := Int) A0 c0 _ w).mono ?_
      rintro e w' ⟨rfl, rfl⟩
      exact ⟨rfl, Drawn0.refl _⟩
    · have hlen : 0 < l0.length := List.length_pos_iff.mpr hz
      have row : ∀ j : Nat, j < l0.length → ∃ ad : Addr, A0 = some ad ∧ ∃ q : QIn w, w.cell? (ad.add j) = some (qEnc w q) ∧ q.1.v = (l0.getD j []).headD 0 := fun j hj => by
        obtain ⟨ad, A, c, e, hcell, hle, hC⟩ := at_L2 hr0 (j : Int) (by omega) (by omega)
        have e1 : rd_L2 l0 (j : Int) = l0.getD j [] := by simp [rd_L2]
        have hne : l0.getD j [] ≠ [] := hh.1 _ (by rw [List.getD_eq_getElem?_getD, List.getElem?_eq_getElem hj]; exact List.getElem_mem hj)
        rw [e1] at hcell hC
        have hpos : 0 < (l0.getD j []).length := List.length_pos_iff.mpr hne
        obtain ⟨ad2, e2, hx2⟩ := Kd.at_int hC 0 (by omega) (by omega)
        subst e2
        rw [show ((0 : Int)).toNat = 0 from rfl, Addr.add_zero'] at hx2
        refine ⟨ad, e, ⟨⟨ad2, (l0.getD j []).length, c, rd (l0.getD j []) 0⟩, hx2, hpos⟩, by rw [Int.toNat_natCast] at hcell; exact hcell, ?_⟩
        show rd (l0.getD j []) 0 = _
        cases l0.getD j [] <;> simp [rd]
      obtain ⟨ad, eA, q0, hq0, hv0⟩ := row 0 hlen
      subst eA
      obtain ⟨b, o, s⟩ := ad
      have hs : s = none := by
        rw [show (⟨b, o, s⟩ : Addr).add 0 = ⟨b, o, s⟩ from by simp [Addr.add]] at hq0
        simp only [World.cell?] at hq0
        split at hq0
        · cases s with
          | none => rfl
          | some _ => simp at hq0
        · cases hq0
      obtain rfl := hs
      have row2 : ∀ j : Fin l0.length, ∃ q : QIn w, w.cell? ((⟨b, o, none⟩ : Addr).add j.1) = some (qEnc w q) ∧ q.1.v = (l0.getD j.1 []).headD 0 := fun j => by
        obtain ⟨ad, e, q, h1, h2⟩ := row j.1 j.2
        obtain rfl := Option.some.inj e
        exact ⟨q, h1, h2⟩
      letI : Inhabited (QIn w) := ⟨q0⟩
      obtain ⟨fq, hfq⟩ := Classical.axiomOfChoice row2
      let zs : List (QIn w) := List.ofFn fq
      have hzl : zs.length = l0.length := by simp [zs]
      have hzj : ∀ j, (hj : j < l0.length) → zs[j]! = fq ⟨j, hj⟩ := fun j hj => by
        rw [getElem!_pos zs j (by rw [hzl]; exact hj)]
        simp [zs]
      have hmap : zs.map (fun q => q.1.v) = l0.map (fun y => y.headD 0) := by
        apply List.ext_getElem
        · simp [hzl]
        · intro j h1 h2
          have hj : j < l0.length := by simpa using h2
          have := (hfq ⟨j, hj⟩).2
          simp only [List.getElem_map]
          simp only [zs, List.getElem_ofFn]
          rw [this, List.getD_eq_getElem?_getD, List.getElem?_eq_getElem hj]
          rfl
      have eg : ∀ args w, (callFunc 38 args).run Tryz.prog w = .ok (.enter 38 args) w := fun args w => enters_ Tryz.func38 (by kernel_rfl) rfl args w
      refine (Tryz.slices_IndexFunc (qEnc w) (fun q => decide (q.1.v = a1)) 38 #[.pointer (some ⟨gx, 0, none⟩)] eg b o l0.length c0 zs w (cyl_pred gx a1 w hx) (by omega) (by have := hh.2; omega) ?_).mono ?_
      · intro j hj
        have hj' : j < l0.length := by omega
        rw [hzj j hj']
        have := (hfq ⟨j, hj'⟩).1
        have e3 : (⟨b, o, none⟩ : Addr).add j = ⟨b, o + j, none⟩ := by cases j <;> simp [Addr.add]
        exact (congrArg w.cell? e3).symm.trans this
      · rintro e w' ⟨rfl, q, rfl⟩
        rw [← hzl, List.take_length]
        unfold Go.Lib.idxBy
        rw [idx_map w a1 zs l0 0 _ hmap]
        exact ⟨rfl, ⟨⟨q, rfl⟩⟩⟩
  · rw [if_neg hh] at h
    exact absurd h (by simp)

end Go.Proofs.YthhdgeafdnikcaaGreatDoor.S
