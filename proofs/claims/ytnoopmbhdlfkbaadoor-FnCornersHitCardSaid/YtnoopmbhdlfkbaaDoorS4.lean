-- PRINTED by print.py (a twelfth state) out of the translation. Not trusted: Lean checks it.
import Derived.Test.YtnoopmbhdlfkbaaDoorS0
import Derived.Test.YtnoopmbhdlfkbaaDoorS2
import Derived.Test.YtnoopmbhdlfkbaaDoorS3
namespace Go.Proofs.YtnoopmbhdlfkbaaDoor.S
open Go.RowKit Go.Proofs.YtnoopmbhdlfkbaaDoorW.PrintWords Go.Proofs.YtnoopmbhdlfkbaaDoorW.PrintLast Go.Proofs.YtnoopmbhdlfkbaaDoorW.PrintMore
attribute [local go_sem] max2_int min2_int max_two min_two max_three min_three max_four min_four   -- for this text's walks alone
set_option linter.unusedVariables false
set_option linter.unusedSimpArgs false

/-! ### impl_BallLine: function 18 -/
def impl_BallLine.f (k : Nat) (a0 : Int) (a1 : Int) (a2_0 : Int) (a2_1 : Int) (a2_2 : Int) (a2_3 : Int) : Option (ByteArray) := (impl_BallOk.f a0 a1 a2_0 a2_1 a2_2 a2_3).bind fun t199 => (if t199 = true then ((impl_BouncesIn.f k a0 a1 a2_0 a2_1 a2_2 a2_3).bind fun bt200 => ((impl_BallPeriod.f k a0 a1).bind fun t202 => ((impl_FormatInt.f t202).bind fun t203 => (if 7 + t203.size ≤ 9223372036854775807 then (if ((⟨#[112, 101, 114, 105, 111, 100, 32]⟩ : ByteArray) ++ t203).size + 9 ≤ 9223372036854775807 then ((impl_FormatInt.f bt200.1).bind fun t204 => (if (((⟨#[112, 101, 114, 105, 111, 100, 32]⟩ : ByteArray) ++ t203) ++ (⟨#[32, 98, 111, 117, 110, 99, 101, 115, 32]⟩ : ByteArray)).size + t204.size ≤ 9223372036854775807 then (if ((((⟨#[112, 101, 114, 105, 111, 100, 32]⟩ : ByteArray) ++ t203) ++ (⟨#[32, 98, 111, 117, 110, 99, 101, 115, 32]⟩ : ByteArray)) ++ t204).size + 1 ≤ 9223372036854775807 then ((impl_FormatInt.f bt200.2).bind fun t205 => (if (((((⟨#[112, 101, 114, 105, 111, 100, 32]⟩ : ByteArray) ++ t203) ++ (⟨#[32, 98, 111, 117, 110, 99, 101, 115, 32]⟩ : ByteArray)) ++ t204) ++ (⟨#[32]⟩ : ByteArray)).size + t205.size ≤ 9223372036854775807 then (if ((((((⟨#[112, 101, 114, 105, 111, 100, 32]⟩ : ByteArray) ++ t203) ++ (⟨#[32, 98, 111, 117, 110, 99, 101, 115, 32]⟩ : ByteArray)) ++ t204) ++ (⟨#[32]⟩ : ByteArray)) ++ t205).size + 8 ≤ 9223372036854775807 then ((impl_StepsToCorner.f k a0 a1 a2_0 a2_1 a2_2 a2_3).bind fun t206 => ((impl_FormatInt.f t206).bind fun t207 => (if (((((((⟨#[112, 101, 114, 105, 111, 100, 32]⟩ : ByteArray) ++ t203) ++ (⟨#[32, 98, 111, 117, 110, 99, 101, 115, 32]⟩ : ByteArray)) ++ t204) ++ (⟨#[32]⟩ : ByteArray)) ++ t205) ++ (⟨#[32, 99, 111, 114, 110, 101, 114, 32]⟩ : ByteArray)).size + t207.size ≤ 9223372036854775807 then (some ((((((((⟨#[112, 101, 114, 105, 111, 100, 32]⟩ : ByteArray) ++ t203) ++ (⟨#[32, 98, 111, 117, 110, 99, 101, 115, 32]⟩ : ByteArray)) ++ t204) ++ (⟨#[32]⟩ : ByteArray)) ++ t205) ++ (⟨#[32, 99, 111, 114, 110, 101, 114, 32]⟩ : ByteArray)) ++ t207)) else (none)))) else (none)) else (none))) else (none)) else (none))) else (none)) else (none))))) else (some (⟨#[]⟩ : ByteArray)))
def impl_BallLine.T4 : Bool × List (List Nat × List Nat) := (true, [([], []), ([], []), ([0, 1], [0, 1]), ([2, 2], [2]), ([3], [3]), ([4], [4]), ([], []), ([6, 3], [6]), ([5, 7], [5, 7]), ([8], [8]), ([], []), ([10, 7], [10]), ([9, 11], [9, 11]), ([12], [12]), ([], []), ([], []), ([], []), ([14, 15, 16, 11], [14, 15, 16]), ([17, 17], [17]), ([13, 18], [13, 18]), ([19, 18, 0, 1, 2, 3, 4, 5, 6, 7, 8, 9, 10, 11, 12, 13, 14, 15, 16, 17, 18, 19], [19])])
def impl_BallLine.B4 : List Nat := [0, 0, 3, 7, 15, 31, 0, 79, 255, 511, 0, 1231, 4095, 8191, 0, 0, 0, 117967, 249039, 524287, 1048575]
theorem impl_BallLine.tab4 : rtab .any (opsOf Tryd.f18 4) = impl_BallLine.T4 := by kernel_rfl
theorem impl_BallLine.bits4 : waitsOk impl_BallLine.T4.2 impl_BallLine.B4 = true := by kernel_rfl
set_option maxHeartbeats 8000000 in
set_option maxRecDepth 100000 in
theorem impl_BallLine.calls (k : Nat) (a0 : Int) (a1 : Int) (a2_0 : Int) (a2_1 : Int) (a2_2 : Int) (a2_3 : Int) (r : ByteArray) (w : World) (htab_ : PowTab w) (h : impl_BallLine.f k a0 a1 a2_0 a2_1 a2_2 a2_3 = some r) :
  Calls Tryd.prog 18 #[.int .i64 a0, .int .i64 a1, .agg #[.int .i64 a2_0, .int .i64 a2_1, .int .i64 a2_2, .int .i64 a2_3]] w fun e w' => e = .returned (.string r) ∧ Below w.heap.size w w' := by
 have hu24 := Tryd.underlying24
 have HB := Aside0.mk (Below.refl w.heap.size w)
 have H : ((impl_BallOk.f a0 a1 a2_0 a2_1 a2_2 a2_3).bind fun t199 => (if t199 = true then ((impl_BouncesIn.f k a0 a1 a2_0 a2_1 a2_2 a2_3).bind fun bt200 => ((impl_BallPeriod.f k a0 a1).bind fun t202 => ((impl_FormatInt.f t202).bind fun t203 => (if 7 + t203.size ≤ 9223372036854775807 then (if ((⟨#[112, 101, 114, 105, 111, 100, 32]⟩ : ByteArray) ++ t203).size + 9 ≤ 9223372036854775807 then ((impl_FormatInt.f bt200.1).bind fun t204 => (if (((⟨#[112, 101, 114, 105, 111, 100, 32]⟩ : ByteArray) ++ t203) ++ (⟨#[32, 98, 111, 117, 110, 99, 101, 115, 32]⟩ : ByteArray)).size + t204.size ≤ 9223372036854775807 then (if ((((⟨#[112, 101, 114, 105, 111, 100, 32]⟩ : ByteArray) ++ t203) ++ (⟨#[32, 98, 111, 117, 110, 99, 101, 115, 32]⟩ : ByteArray)) ++ t204).size + 1 ≤ 9223372036854775807 then ((impl_FormatInt.f bt200.2).bind fun t205 => (if (((((⟨#[112, 101, 114, 105, 111, 100, 32]⟩ : ByteArray) ++ t203) ++ (⟨#[32, 98, 111, 117, 110, 99, 101, 115, 32]⟩ : ByteArray)) ++ t204) ++ (⟨#[32]⟩ : ByteArray)).size + t205.size ≤ 9223372036854775807 then (if ((((((⟨#[112, 101, 114, 105, 111, 100, 32]⟩ : ByteArray) ++ t203) ++ (⟨#[32, 98, 111, 117, 110, 99, 101, 115, 32]⟩ : ByteArray)) ++ t204) ++ (⟨#[32]⟩ : ByteArray)) ++ t205).size + 8 ≤ 9223372036854775807 then ((impl_StepsToCorner.f k a0 a1 a2_0 a2_1 a2_2 a2_3).bind fun t206 => ((impl_FormatInt.f t206).bind fun t207 => (if (((((((⟨#[112, 101, 114, 105, 111, 100, 32]⟩ : ByteArray) ++ t203) ++ (⟨#[32, 98, 111, 117, 110, 99, 101, 115, 32]⟩ : ByteArray)) ++ t204) ++ (⟨#[32]⟩ : ByteArray)) ++ t205) ++ (⟨#[32, 99, 111, 114, 110, 101, 114, 32]⟩ : ByteArray)).size + t207.size ≤ 9223372036854775807 then (some ((((((((⟨#[112, 101, 114, 105, 111, 100, 32]⟩ : ByteArray) ++ t203) ++ (⟨#[32, 98, 111, 117, 110, 99, 101, 115, 32]⟩ : ByteArray)) ++ t204) ++ (⟨#[32]⟩ : ByteArray)) ++ t205) ++ (⟨#[32, 99, 111, 114, 110, 101, 114, 32]⟩ : ByteArray)) ++ t207)) else (none)))) else (none)) else (none))) else (none)) else (none))) else (none)) else (none))))) else (some (⟨#[]⟩ : ByteArray)))) = some r := h
 clear h
 have HTAB := Aside0.mk htab_
 clear htab_
 replace H := Option.bind_eq_some_iff.mp H
 obtain ⟨t199, A40, H⟩ := H
 replace H : (if t199 = true then ((impl_BouncesIn.f k a0 a1 a2_0 a2_1 a2_2 a2_3).bind fun bt200 => ((impl_BallPeriod.f k a0 a1).bind fun t202 => ((impl_FormatInt.f t202).bind fun t203 => (if 7 + t203.size ≤ 9223372036854775807 then (if ((⟨#[112, 101, 114, 105, 111, 100, 32]⟩ : ByteArray) ++ t203).size + 9 ≤ 9223372036854775807 then ((impl_FormatInt.f bt200.1).bind fun t204 => (if (((⟨#[112, 101, 114, 105, 111, 100, 32]⟩ : ByteArray) ++ t203) ++ (⟨#[32, 98, 111, 117, 110, 99, 101, 115, 32]⟩ : ByteArray)).size + t204.size ≤ 9223372036854775807 then (if ((((⟨#[112, 101, 114, 105, 111, 100, 32]⟩ : ByteArray) ++ t203) ++ (⟨#[32, 98, 111, 117, 110, 99, 101, 115, 32]⟩ : ByteArray)) ++ t204).size + 1 ≤ 9223372036854775807 then ((impl_FormatInt.f bt200.2).bind fun t205 => (if (((((⟨#[112, 101, 114, 105, 111, 100, 32]⟩ : ByteArray) ++ t203) ++ (⟨#[32, 98, 111, 117, 110, 99, 101, 115, 32]⟩ : ByteArray)) ++ t204) ++ (⟨#[32]⟩ : ByteArray)).size + t205.size ≤ 9223372036854775807 then (if ((((((⟨#[112, 101, 114, 105, 111, 100, 32]⟩ : ByteArray) ++ t203) ++ (⟨#[32, 98, 111, 117, 110, 99, 101, 115, 32]⟩ : ByteArray)) ++ t204) ++ (⟨#[32]⟩ : ByteArray)) ++ t205).size + 8 ≤ 9223372036854775807 then ((impl_StepsToCorner.f k a0 a1 a2_0 a2_1 a2_2 a2_3).bind fun t206 => ((impl_FormatInt.f t206).bind fun t207 => (if (((((((⟨#[112, 101, 114, 105, 111, 100, 32]⟩ : ByteArray) ++ t203) ++ (⟨#[32, 98, 111, 117, 110, 99, 101, 115, 32]⟩ : ByteArray)) ++ t204) ++ (⟨#[32]⟩ : ByteArray)) ++ t205) ++ (⟨#[32, 99, 111, 114, 110, 101, 114, 32]⟩ : ByteArray)).size + t207.size ≤ 9223372036854775807 then (some ((((((((⟨#[112, 101, 114, 105, 111, 100, 32]⟩ : ByteArray) ++ t203) ++ (⟨#[32, 98, 111, 117, 110, 99, 101, 115, 32]⟩ : ByteArray)) ++ t204) ++ (⟨#[32]⟩ : ByteArray)) ++ t205) ++ (⟨#[32, 99, 111, 114, 110, 101, 114, 32]⟩ : ByteArray)) ++ t207)) else (none)))) else (none)) else (none))) else (none)) else (none))) else (none)) else (none))))) else (some (⟨#[]⟩ : ByteArray))) = some r := H
 have A4 := Aside0.mk A40
 clear A40
 by_cases c5 : t199 = true
 ·subst c5
  have H1 : ((impl_BouncesIn.f k a0 a1 a2_0 a2_1 a2_2 a2_3).bind fun bt200 => ((impl_BallPeriod.f k a0 a1).bind fun t202 => ((impl_FormatInt.f t202).bind fun t203 => (if 7 + t203.size ≤ 9223372036854775807 then (if ((⟨#[112, 101, 114, 105, 111, 100, 32]⟩ : ByteArray) ++ t203).size + 9 ≤ 9223372036854775807 then ((impl_FormatInt.f bt200.1).bind fun t204 => (if (((⟨#[112, 101, 114, 105, 111, 100, 32]⟩ : ByteArray) ++ t203) ++ (⟨#[32, 98, 111, 117, 110, 99, 101, 115, 32]⟩ : ByteArray)).size + t204.size ≤ 9223372036854775807 then (if ((((⟨#[112, 101, 114, 105, 111, 100, 32]⟩ : ByteArray) ++ t203) ++ (⟨#[32, 98, 111, 117, 110, 99, 101, 115, 32]⟩ : ByteArray)) ++ t204).size + 1 ≤ 9223372036854775807 then ((impl_FormatInt.f bt200.2).bind fun t205 => (if (((((⟨#[112, 101, 114, 105, 111, 100, 32]⟩ : ByteArray) ++ t203) ++ (⟨#[32, 98, 111, 117, 110, 99, 101, 115, 32]⟩ : ByteArray)) ++ t204) ++ (⟨#[32]⟩ : ByteArray)).size + t205.size ≤ 9223372036854775807 then (if ((((((⟨#[112, 101, 114, 105, 111, 100, 32]⟩ : ByteArray) ++ t203) ++ (⟨#[32, 98, 111, 117, 110, 99, 101, 115, 32]⟩ : ByteArray)) ++ t204) ++ (⟨#[32]⟩ : ByteArray)) ++ t205).size + 8 ≤ 9223372036854775807 then ((impl_StepsToCorner.f k a0 a1 a2_0 a2_1 a2_2 a2_3).bind fun t206 => ((impl_FormatInt.f t206).bind fun t207 => (if (((((((⟨#[112, 101, 114, 105, 111, 100, 32]⟩ : ByteArray) ++ t203) ++ (⟨#[32, 98, 111, 117, 110, 99, 101, 115, 32]⟩ : ByteArray)) ++ t204) ++ (⟨#[32]⟩ : ByteArray)) ++ t205) ++ (⟨#[32, 99, 111, 114, 110, 101, 114, 32]⟩ : ByteArray)).size + t207.size ≤ 9223372036854775807 then (some ((((((((⟨#[112, 101, 114, 105, 111, 100, 32]⟩ : ByteArray) ++ t203) ++ (⟨#[32, 98, 111, 117, 110, 99, 101, 115, 32]⟩ : ByteArray)) ++ t204) ++ (⟨#[32]⟩ : ByteArray)) ++ t205) ++ (⟨#[32, 99, 111, 114, 110, 101, 114, 32]⟩ : ByteArray)) ++ t207)) else (none)))) else (none)) else (none))) else (none)) else (none))) else (none)) else (none))))) = some r := by rw [if_pos rfl] at H; exact H
  clear H
  have H := H1
  clear H1
  replace H := Option.bind_eq_some_iff.mp H
  obtain ⟨⟨t200, t201⟩, A60, H⟩ := H
  replace H : ((impl_BallPeriod.f k a0 a1).bind fun t202 => ((impl_FormatInt.f t202).bind fun t203 => (if 7 + t203.size ≤ 9223372036854775807 then (if ((⟨#[112, 101, 114, 105, 111, 100, 32]⟩ : ByteArray) ++ t203).size + 9 ≤ 9223372036854775807 then ((impl_FormatInt.f t200).bind fun t204 => (if (((⟨#[112, 101, 114, 105, 111, 100, 32]⟩ : ByteArray) ++ t203) ++ (⟨#[32, 98, 111, 117, 110, 99, 101, 115, 32]⟩ : ByteArray)).size + t204.size ≤ 9223372036854775807 then (if ((((⟨#[112, 101, 114, 105, 111, 100, 32]⟩ : ByteArray) ++ t203) ++ (⟨#[32, 98, 111, 117, 110, 99, 101, 115, 32]⟩ : ByteArray)) ++ t204).size + 1 ≤ 9223372036854775807 then ((impl_FormatInt.f t201).bind fun t205 => (if (((((⟨#[112, 101, 114, 105, 111, 100, 32]⟩ : ByteArray) ++ t203) ++ (⟨#[32, 98, 111, 117, 110, 99, 101, 115, 32]⟩ : ByteArray)) ++ t204) ++ (⟨#[32]⟩ : ByteArray)).size + t205.size ≤ 9223372036854775807 then (if ((((((⟨#[112, 101, 114, 105, 111, 100, 32]⟩ : ByteArray) ++ t203) ++ (⟨#[32, 98, 111, 117, 110, 99, 101, 115, 32]⟩ : ByteArray)) ++ t204) ++ (⟨#[32]⟩ : ByteArray)) ++ t205).size + 8 ≤ 9223372036854775807 then ((impl_StepsToCorner.f k a0 a1 a2_0 a2_1 a2_2 a2_3).bind fun t206 => ((impl_FormatInt.f t206).bind fun t207 => (if (((((((⟨#[112, 101, 114, 105, 111, 100, 32]⟩ : ByteArray) ++ t203) ++ (⟨#[32, 98, 111, 117, 110, 99, 101, 115, 32]⟩ : ByteArray)) ++ t204) ++ (⟨#[32]⟩ : ByteArray)) ++ t205) ++ (⟨#[32, 99, 111, 114, 110, 101, 114, 32]⟩ : ByteArray)).size + t207.size ≤ 9223372036854775807 then (some ((((((((⟨#[112, 101, 114, 105, 111, 100, 32]⟩ : ByteArray) ++ t203) ++ (⟨#[32, 98, 111, 117, 110, 99, 101, 115, 32]⟩ : ByteArray)) ++ t204) ++ (⟨#[32]⟩ : ByteArray)) ++ t205) ++ (⟨#[32, 99, 111, 114, 110, 101, 114, 32]⟩ : ByteArray)) ++ t207)) else (none)))) else (none)) else (none))) else (none)) else (none))) else (none)) else (none)))) = some r := H
  have A6 := Aside0.mk A60
  clear A60
  replace H := Option.bind_eq_some_iff.mp H
  obtain ⟨t202, A70, H⟩ := H
  replace H : ((impl_FormatInt.f t202).bind fun t203 => (if 7 + t203.size ≤ 9223372036854775807 then (if ((⟨#[112, 101, 114, 105, 111, 100, 32]⟩ : ByteArray) ++ t203).size + 9 ≤ 9223372036854775807 then ((impl_FormatInt.f t200).bind fun t204 => (if (((⟨#[112, 101, 114, 105, 111, 100, 32]⟩ : ByteArray) ++ t203) ++ (⟨#[32, 98, 111, 117, 110, 99, 101, 115, 32]⟩ : ByteArray)).size + t204.size ≤ 9223372036854775807 then (if ((((⟨#[112, 101, 114, 105, 111, 100, 32]⟩ : ByteArray) ++ t203) ++ (⟨#[32, 98, 111, 117, 110, 99, 101, 115, 32]⟩ : ByteArray)) ++ t204).size + 1 ≤ 9223372036854775807 then ((impl_FormatInt.f t201).bind fun t205 => (if (((((⟨#[112, 101, 114, 105, 111, 100, 32]⟩ : ByteArray) ++ t203) ++ (⟨#[32, 98, 111, 117, 110, 99, 101, 115, 32]⟩ : ByteArray)) ++ t204) ++ (⟨#[32]⟩ : ByteArray)).size + t205.size ≤ 9223372036854775807 then (if ((((((⟨#[112, 101, 114, 105, 111, 100, 32]⟩ : ByteArray) ++ t203) ++ (⟨#[32, 98, 111, 117, 110, 99, 101, 115, 32]⟩ : ByteArray)) ++ t204) ++ (⟨#[32]⟩ : ByteArray)) ++ t205).size + 8 ≤ 9223372036854775807 then ((impl_StepsToCorner.f k a0 a1 a2_0 a2_1 a2_2 a2_3).bind fun t206 => ((impl_FormatInt.f t206).bind fun t207 => (if (((((((⟨#[112, 101, 114, 105, 111, 100, 32]⟩ : ByteArray) ++ t203) ++ (⟨#[32, 98, 111, 117, 110, 99, 101, 115, 32]⟩ : ByteArray)) ++ t204) ++ (⟨#[32]⟩ : ByteArray)) ++ t205) ++ (⟨#[32, 99, 111, 114, 110, 101, 114, 32]⟩ : ByteArray)).size + t207.size ≤ 9223372036854775807 then (some ((((((((⟨#[112, 101, 114, 105, 111, 100, 32]⟩ : ByteArray) ++ t203) ++ (⟨#[32, 98, 111, 117, 110, 99, 101, 115, 32]⟩ : ByteArray)) ++ t204) ++ (⟨#[32]⟩ : ByteArray)) ++ t205) ++ (⟨#[32, 99, 111, 114, 110, 101, 114, 32]⟩ : ByteArray)) ++ t207)) else (none)))) else (none)) else (none))) else (none)) else (none))) else (none)) else (none))) = some r := H
  have A7 := Aside0.mk A70
  clear A70
  replace H := Option.bind_eq_some_iff.mp H
  obtain ⟨t203, A80, H⟩ := H
  replace H : (if 7 + t203.size ≤ 9223372036854775807 then (if ((⟨#[112, 101, 114, 105, 111, 100, 32]⟩ : ByteArray) ++ t203).size + 9 ≤ 9223372036854775807 then ((impl_FormatInt.f t200).bind fun t204 => (if (((⟨#[112, 101, 114, 105, 111, 100, 32]⟩ : ByteArray) ++ t203) ++ (⟨#[32, 98, 111, 117, 110, 99, 101, 115, 32]⟩ : ByteArray)).size + t204.size ≤ 9223372036854775807 then (if ((((⟨#[112, 101, 114, 105, 111, 100, 32]⟩ : ByteArray) ++ t203) ++ (⟨#[32, 98, 111, 117, 110, 99, 101, 115, 32]⟩ : ByteArray)) ++ t204).size + 1 ≤ 9223372036854775807 then ((impl_FormatInt.f t201).bind fun t205 => (if (((((⟨#[112, 101, 114, 105, 111, 100, 32]⟩ : ByteArray) ++ t203) ++ (⟨#[32, 98, 111, 117, 110, 99, 101, 115, 32]⟩ : ByteArray)) ++ t204) ++ (⟨#[32]⟩ : ByteArray)).size + t205.size ≤ 9223372036854775807 then (if ((((((⟨#[112, 101, 114, 105, 111, 100, 32]⟩ : ByteArray) ++ t203) ++ (⟨#[32, 98, 111, 117, 110, 99, 101, 115, 32]⟩ : ByteArray)) ++ t204) ++ (⟨#[32]⟩ : ByteArray)) ++ t205).size + 8 ≤ 9223372036854775807 then ((impl_StepsToCorner.f k a0 a1 a2_0 a2_1 a2_2 a2_3).bind fun t206 => ((impl_FormatInt.f t206).bind fun t207 => (if (((((((⟨#[112, 101, 114, 105, 111, 100, 32]⟩ : ByteArray) ++ t203) ++ (⟨#[32, 98, 111, 117, 110, 99, 101, 115, 32]⟩ : ByteArray)) ++ t204) ++ (⟨#[32]⟩ : ByteArray)) ++ t205) ++ (⟨#[32, 99, 111, 114, 110, 101, 114, 32]⟩ : ByteArray)).size + t207.size ≤ 9223372036854775807 then (some ((((((((⟨#[112, 101, 114, 105, 111, 100, 32]⟩ : ByteArray) ++ t203) ++ (⟨#[32, 98, 111, 117, 110, 99, 101, 115, 32]⟩ : ByteArray)) ++ t204) ++ (⟨#[32]⟩ : ByteArray)) ++ t205) ++ (⟨#[32, 99, 111, 114, 110, 101, 114, 32]⟩ : ByteArray)) ++ t207)) else (none)))) else (none)) else (none))) else (none)) else (none))) else (none)) else (none)) = some r := H
  have A8 := Aside0.mk A80
  clear A80
  by_cases c9 : 7 + t203.size ≤ 9223372036854775807
  ·rw [if_pos c9] at H
   have c9b0 := eq_true c9
   have c9b1 : decide (7 + t203.size ≤ 9223372036854775807) = true := decide_eq_true c9
   try have c9b2 : (9223372036854775807 < 7 + t203.size) = False := eq_false (Nat.not_lt.2 c9)
   by_cases c10 : ((⟨#[112, 101, 114, 105, 111, 100, 32]⟩ : ByteArray) ++ t203).size + 9 ≤ 9223372036854775807
   ·rw [if_pos c10] at H
    have c10b0 := eq_true c10
    have c10b1 : decide (((⟨#[112, 101, 114, 105, 111, 100, 32]⟩ : ByteArray) ++ t203).size + 9 ≤ 9223372036854775807) = true := decide_eq_true c10
    try have c10b2 : (9223372036854775807 < ((⟨#[112, 101, 114, 105, 111, 100, 32]⟩ : ByteArray) ++ t203).size + 9) = False := eq_false (Nat.not_lt.2 c10)
    try have c10b3 : (9223372036854775807 < 7 + t203.size + 9) = False := eq_false (Nat.not_lt.2 (by have hz_ := c10; simp only [ByteArray.size_append] at hz_; first | exact hz_ | omega))
    replace H := Option.bind_eq_some_iff.mp H
    obtain ⟨t204, A110, H⟩ := H
    replace H : (if (((⟨#[112, 101, 114, 105, 111, 100, 32]⟩ : ByteArray) ++ t203) ++ (⟨#[32, 98, 111, 117, 110, 99, 101, 115, 32]⟩ : ByteArray)).size + t204.size ≤ 9223372036854775807 then (if ((((⟨#[112, 101, 114, 105, 111, 100, 32]⟩ : ByteArray) ++ t203) ++ (⟨#[32, 98, 111, 117, 110, 99, 101, 115, 32]⟩ : ByteArray)) ++ t204).size + 1 ≤ 9223372036854775807 then ((impl_FormatInt.f t201).bind fun t205 => (if (((((⟨#[112, 101, 114, 105, 111, 100, 32]⟩ : ByteArray) ++ t203) ++ (⟨#[32, 98, 111, 117, 110, 99, 101, 115, 32]⟩ : ByteArray)) ++ t204) ++ (⟨#[32]⟩ : ByteArray)).size + t205.size ≤ 9223372036854775807 then (if ((((((⟨#[112, 101, 114, 105, 111, 100, 32]⟩ : ByteArray) ++ t203) ++ (⟨#[32, 98, 111, 117, 110, 99, 101, 115, 32]⟩ : ByteArray)) ++ t204) ++ (⟨#[32]⟩ : ByteArray)) ++ t205).size + 8 ≤ 9223372036854775807 then ((impl_StepsToCorner.f k a0 a1 a2_0 a2_1 a2_2 a2_3).bind fun t206 => ((impl_FormatInt.f t206).bind fun t207 => (if (((((((⟨#[112, 101, 114, 105, 111, 100, 32]⟩ : ByteArray) ++ t203) ++ (⟨#[32, 98, 111, 117, 110, 99, 101, 115, 32]⟩ : ByteArray)) ++ t204) ++ (⟨#[32]⟩ : ByteArray)) ++ t205) ++ (⟨#[32, 99, 111, 114, 110, 101, 114, 32]⟩ : ByteArray)).size + t207.size ≤ 9223372036854775807 then (some ((((((((⟨#[112, 101, 114, 105, 111, 100, 32]⟩ : ByteArray) ++ t203) ++ (⟨#[32, 98, 111, 117, 110, 99, 101, 115, 32]⟩ : ByteArray)) ++ t204) ++ (⟨#[32]⟩ : ByteArray)) ++ t205) ++ (⟨#[32, 99, 111, 114, 110, 101, 114, 32]⟩ : ByteArray)) ++ t207)) else (none)))) else (none)) else (none))) else (none)) else (none)) = some r := H
    have A11 := Aside0.mk A110
    clear A110
    by_cases c12 : (((⟨#[112, 101, 114, 105, 111, 100, 32]⟩ : ByteArray) ++ t203) ++ (⟨#[32, 98, 111, 117, 110, 99, 101, 115, 32]⟩ : ByteArray)).size + t204.size ≤ 9223372036854775807
    ·rw [if_pos c12] at H
     have c12b0 := eq_true c12
     have c12b1 : decide ((((⟨#[112, 101, 114, 105, 111, 100, 32]⟩ : ByteArray) ++ t203) ++ (⟨#[32, 98, 111, 117, 110, 99, 101, 115, 32]⟩ : ByteArray)).size + t204.size ≤ 9223372036854775807) = true := decide_eq_true c12
     try have c12b2 : (9223372036854775807 < (((⟨#[112, 101, 114, 105, 111, 100, 32]⟩ : ByteArray) ++ t203) ++ (⟨#[32, 98, 111, 117, 110, 99, 101, 115, 32]⟩ : ByteArray)).size + t204.size) = False := eq_false (Nat.not_lt.2 c12)
     try have c12b3 : (9223372036854775807 < 7 + t203.size + 9 + t204.size) = False := eq_false (Nat.not_lt.2 (by have hz_ := c12; simp only [ByteArray.size_append] at hz_; first | exact hz_ | omega))
     by_cases c13 : ((((⟨#[112, 101, 114, 105, 111, 100, 32]⟩ : ByteArray) ++ t203) ++ (⟨#[32, 98, 111, 117, 110, 99, 101, 115, 32]⟩ : ByteArray)) ++ t204).size + 1 ≤ 9223372036854775807
     ·rw [if_pos c13] at H
      have c13b0 := eq_true c13
      have c13b1 : decide (((((⟨#[112, 101, 114, 105, 111, 100, 32]⟩ : ByteArray) ++ t203) ++ (⟨#[32, 98, 111, 117, 110, 99, 101, 115, 32]⟩ : ByteArray)) ++ t204).size + 1 ≤ 9223372036854775807) = true := decide_eq_true c13
      try have c13b2 : (9223372036854775807 < ((((⟨#[112, 101, 114, 105, 111, 100, 32]⟩ : ByteArray) ++ t203) ++ (⟨#[32, 98, 111, 117, 110, 99, 101, 115, 32]⟩ : ByteArray)) ++ t204).size + 1) = False := eq_false (Nat.not_lt.2 c13)
      try have c13b3 : (9223372036854775807 < 7 + t203.size + 9 + t204.size + 1) = False := eq_false (Nat.not_lt.2 (by have hz_ := c13; simp only [ByteArray.size_append] at hz_; first | exact hz_ | omega))
      replace H := Option.bind_eq_some_iff.mp H
      obtain ⟨t205, A140, H⟩ := H
      replace H : (if (((((⟨#[112, 101, 114, 105, 111, 100, 32]⟩ : ByteArray) ++ t203) ++ (⟨#[32, 98, 111, 117, 110, 99, 101, 115, 32]⟩ : ByteArray)) ++ t204) ++ (⟨#[32]⟩ : ByteArray)).size + t205.size ≤ 9223372036854775807 then (if ((((((⟨#[112, 101, 114, 105, 111, 100, 32]⟩ : ByteArray) ++ t203) ++ (⟨#[32, 98, 111, 117, 110, 99, 101, 115, 32]⟩ : ByteArray)) ++ t204) ++ (⟨#[32]⟩ : ByteArray)) ++ t205).size + 8 ≤ 9223372036854775807 then ((impl_StepsToCorner.f k a0 a1 a2_0 a2_1 a2_2 a2_3).bind fun t206 => ((impl_FormatInt.f t206).bind fun t207 => (if (((((((⟨#[112, 101, 114, 105, 111, 100, 32]⟩ : ByteArray) ++ t203) ++ (⟨#[32, 98, 111, 117, 110, 99, 101, 115, 32]⟩ : ByteArray)) ++ t204) ++ (⟨#[32]⟩ : ByteArray)) ++ t205) ++ (⟨#[32, 99, 111, 114, 110, 101, 114, 32]⟩ : ByteArray)).size + t207.size ≤ 9223372036854775807 then (some ((((((((⟨#[112, 101, 114, 105, 111, 100, 32]⟩ : ByteArray) ++ t203) ++ (⟨#[32, 98, 111, 117, 110, 99, 101, 115, 32]⟩ : ByteArray)) ++ t204) ++ (⟨#[32]⟩ : ByteArray)) ++ t205) ++ (⟨#[32, 99, 111, 114, 110, 101, 114, 32]⟩ : ByteArray)) ++ t207)) else (none)))) else (none)) else (none)) = some r := H
      have A14 := Aside0.mk A140
      clear A140
      by_cases c15 : (((((⟨#[112, 101, 114, 105, 111, 100, 32]⟩ : ByteArray) ++ t203) ++ (⟨#[32, 98, 111, 117, 110, 99, 101, 115, 32]⟩ : ByteArray)) ++ t204) ++ (⟨#[32]⟩ : ByteArray)).size + t205.size ≤ 9223372036854775807
      ·rw [if_pos c15] at H
       have c15b0 := eq_true c15
       have c15b1 : decide ((((((⟨#[112, 101, 114, 105, 111, 100, 32]⟩ : ByteArray) ++ t203) ++ (⟨#[32, 98, 111, 117, 110, 99, 101, 115, 32]⟩ : ByteArray)) ++ t204) ++ (⟨#[32]⟩ : ByteArray)).size + t205.size ≤ 9223372036854775807) = true := decide_eq_true c15
       try have c15b2 : (9223372036854775807 < (((((⟨#[112, 101, 114, 105, 111, 100, 32]⟩ : ByteArray) ++ t203) ++ (⟨#[32, 98, 111, 117, 110, 99, 101, 115, 32]⟩ : ByteArray)) ++ t204) ++ (⟨#[32]⟩ : ByteArray)).size + t205.size) = False := eq_false (Nat.not_lt.2 c15)
       try have c15b3 : (9223372036854775807 < 7 + t203.size + 9 + t204.size + 1 + t205.size) = False := eq_false (Nat.not_lt.2 (by have hz_ := c15; simp only [ByteArray.size_append] at hz_; first | exact hz_ | omega))
       by_cases c16 : ((((((⟨#[112, 101, 114, 105, 111, 100, 32]⟩ : ByteArray) ++ t203) ++ (⟨#[32, 98, 111, 117, 110, 99, 101, 115, 32]⟩ : ByteArray)) ++ t204) ++ (⟨#[32]⟩ : ByteArray)) ++ t205).size + 8 ≤ 9223372036854775807
       ·rw [if_pos c16] at H
        have c16b0 := eq_true c16
        have c16b1 : decide (((((((⟨#[112, 101, 114, 105, 111, 100, 32]⟩ : ByteArray) ++ t203) ++ (⟨#[32, 98, 111, 117, 110, 99, 101, 115, 32]⟩ : ByteArray)) ++ t204) ++ (⟨#[32]⟩ : ByteArray)) ++ t205).size + 8 ≤ 9223372036854775807) = true := decide_eq_true c16
        try have c16b2 : (9223372036854775807 < ((((((⟨#[112, 101, 114, 105, 111, 100, 32]⟩ : ByteArray) ++ t203) ++ (⟨#[32, 98, 111, 117, 110, 99, 101, 115, 32]⟩ : ByteArray)) ++ t204) ++ (⟨#[32]⟩ : ByteArray)) ++ t205).size + 8) = False := eq_false (Nat.not_lt.2 c16)
        try have c16b3 : (9223372036854775807 < 7 + t203.size + 9 + t204.size + 1 + t205.size + 8) = False := eq_false (Nat.not_lt.2 (by have hz_ := c16; simp only [ByteArray.size_append] at hz_; first | exact hz_ | omega))
        replace H := Option.bind_eq_some_iff.mp H
        obtain ⟨t206, A170, H⟩ := H
        replace H : ((impl_FormatInt.f t206).bind fun t207 => (if (((((((⟨#[112, 101, 114, 105, 111, 100, 32]⟩ : ByteArray) ++ t203) ++ (⟨#[32, 98, 111, 117, 110, 99, 101, 115, 32]⟩ : ByteArray)) ++ t204) ++ (⟨#[32]⟩ : ByteArray)) ++ t205) ++ (⟨#[32, 99, 111, 114, 110, 101, 114, 32]⟩ : ByteArray)).size + t207.size ≤ 9223372036854775807 then (some ((((((((⟨#[112, 101, 114, 105, 111, 100, 32]⟩ : ByteArray) ++ t203) ++ (⟨#[32, 98, 111, 117, 110, 99, 101, 115, 32]⟩ : ByteArray)) ++ t204) ++ (⟨#[32]⟩ : ByteArray)) ++ t205) ++ (⟨#[32, 99, 111, 114, 110, 101, 114, 32]⟩ : ByteArray)) ++ t207)) else (none))) = some r := H
        have A17 := Aside0.mk A170
        clear A170
        replace H := Option.bind_eq_some_iff.mp H
        obtain ⟨t207, A180, H⟩ := H
        replace H : (if (((((((⟨#[112, 101, 114, 105, 111, 100, 32]⟩ : ByteArray) ++ t203) ++ (⟨#[32, 98, 111, 117, 110, 99, 101, 115, 32]⟩ : ByteArray)) ++ t204) ++ (⟨#[32]⟩ : ByteArray)) ++ t205) ++ (⟨#[32, 99, 111, 114, 110, 101, 114, 32]⟩ : ByteArray)).size + t207.size ≤ 9223372036854775807 then (some ((((((((⟨#[112, 101, 114, 105, 111, 100, 32]⟩ : ByteArray) ++ t203) ++ (⟨#[32, 98, 111, 117, 110, 99, 101, 115, 32]⟩ : ByteArray)) ++ t204) ++ (⟨#[32]⟩ : ByteArray)) ++ t205) ++ (⟨#[32, 99, 111, 114, 110, 101, 114, 32]⟩ : ByteArray)) ++ t207)) else (none)) = some r := H
        have A18 := Aside0.mk A180
        clear A180
        by_cases c19 : (((((((⟨#[112, 101, 114, 105, 111, 100, 32]⟩ : ByteArray) ++ t203) ++ (⟨#[32, 98, 111, 117, 110, 99, 101, 115, 32]⟩ : ByteArray)) ++ t204) ++ (⟨#[32]⟩ : ByteArray)) ++ t205) ++ (⟨#[32, 99, 111, 114, 110, 101, 114, 32]⟩ : ByteArray)).size + t207.size ≤ 9223372036854775807
        ·rw [if_pos c19] at H
         have c19b0 := eq_true c19
         have c19b1 : decide ((((((((⟨#[112, 101, 114, 105, 111, 100, 32]⟩ : ByteArray) ++ t203) ++ (⟨#[32, 98, 111, 117, 110, 99, 101, 115, 32]⟩ : ByteArray)) ++ t204) ++ (⟨#[32]⟩ : ByteArray)) ++ t205) ++ (⟨#[32, 99, 111, 114, 110, 101, 114, 32]⟩ : ByteArray)).size + t207.size ≤ 9223372036854775807) = true := decide_eq_true c19
         try have c19b2 : (9223372036854775807 < (((((((⟨#[112, 101, 114, 105, 111, 100, 32]⟩ : ByteArray) ++ t203) ++ (⟨#[32, 98, 111, 117, 110, 99, 101, 115, 32]⟩ : ByteArray)) ++ t204) ++ (⟨#[32]⟩ : ByteArray)) ++ t205) ++ (⟨#[32, 99, 111, 114, 110, 101, 114, 32]⟩ : ByteArray)).size + t207.size) = False := eq_false (Nat.not_lt.2 c19)
         try have c19b3 : (9223372036854775807 < 7 + t203.size + 9 + t204.size + 1 + t205.size + 8 + t207.size) = False := eq_false (Nat.not_lt.2 (by have hz_ := c19; simp only [ByteArray.size_append] at hz_; first | exact hz_ | omega))
         obtain rfl := Option.some.inj H
         go_enter Tryd.func18, Tryd.ntmps18
         try go_wp2_with (first | ((with_reducible refine gate_dst (N := 5) rfl ?_); refine box_event ?hg (N := 5) ?hd (cs := #[.int .i64 a2_0, .int .i64 a2_1, .int .i64 a2_2, .int .i64 a2_3]) (t := 24) ?hr ?_; (case hd => rfl); (case hg => rfl); (case hr => first | (go_simp; done) | (go_simp; rfl)); intro gb198 hg w20 hbox hb; have n0_ := Aside0.mk (below_step (by repeat (first | (with_reducible first | exact HB.out | apply below_alloc | apply pw_below_drewN | apply below_drew1) | exact HB.out)) hb); have n1_ := Aside0.mk (hbox); have n2_ := Aside0.mk ((by rw [hg]; exact (below_size (by repeat (first | (with_reducible first | exact HB.out | apply below_alloc | apply pw_below_drewN | apply below_drew1) | exact HB.out))) : w.heap.size ≤ gb198)); have n3_ := Aside0.mk ((by rw [hg]; exact (below_size (by repeat (first | (with_reducible first | exact HB.out | apply below_alloc | apply pw_below_drewN | apply below_drew1) | exact HB.out))) : w.heap.size ≤ gb198)); clear HB; have HB := n0_; have BK198 := n1_; have GW198 := n2_; have GE198 := n3_; clear n0_ n1_ n2_ n3_; clear hb hbox hg; have hcz21_0 : w20.cell? ⟨gb198, 0, none⟩ = some (.int .i64 a2_0) := (blk_cell BK198.out 0).trans rfl; have hcz21_1 : w20.cell? ⟨gb198, 1, none⟩ = some (.int .i64 a2_1) := (blk_cell BK198.out 1).trans rfl; have hcz21_2 : w20.cell? ⟨gb198, 2, none⟩ = some (.int .i64 a2_2) := (blk_cell BK198.out 2).trans rfl; have hcz21_3 : w20.cell? ⟨gb198, 3, none⟩ = some (.int .i64 a2_3) := (blk_cell BK198.out 3).trans rfl; have hfz21_0 := blk_frozen BK198.out 0; have hfz21_1 := blk_frozen BK198.out 1; have hfz21_2 := blk_frozen BK198.out 2; have hfz21_3 := blk_frozen BK198.out 3) | ((with_reducible refine gate_callee (f := 59) rfl ?_); refine goesL_ (some 12) rfl rfl Tryd.func59 (by kernel_rfl) rfl #[.int .i64 a0, .int .i64 a1, .agg #[.int .i64 a2_0, .int .i64 a2_1, .int .i64 a2_2, .int .i64 a2_3]] rfl (by (try simp only [List.map_toArray, List.map_cons, List.map_nil]); first | done | rfl | (simp only [List.length_drop, List.length_take]; rfl)) ?_; (with_reducible refine (impl_BallOk.calls a0 a1 a2_0 a2_1 a2_2 a2_3 true _ A4.out).mono ?_); rintro e w22 ⟨rfl, hb⟩; refine ⟨_, rfl, ?_⟩; have n0_ := Aside0.mk (blk_below (g := gb198) (o := .cells #[.int .i64 a2_0, .int .i64 a2_1, .int .i64 a2_2, .int .i64 a2_3] 24 (0, 0)) (by (with_reducible repeat (first | refine blk_drewN ?_ _ | refine blk_drew ?_ | refine blk_alloc ?_ _)); exact BK198.out) hb); have n1_ := Aside0.mk (below_step (by repeat (first | (with_reducible first | exact HB.out | apply below_alloc | apply pw_below_drewN | apply below_drew1 | refine below_set ?_ GE198.out) | exact HB.out)) hb); clear BK198; clear HB; have BK198 := n0_; have HB := n1_; clear n0_ n1_; (try clear hb); (try clear hb2); (try clear hk); (try clear hi); have hcz23_0 : w22.cell? ⟨gb198, 0, none⟩ = some (.int .i64 a2_0) := (blk_cell BK198.out 0).trans rfl; have hcz23_1 : w22.cell? ⟨gb198, 1, none⟩ = some (.int .i64 a2_1) := (blk_cell BK198.out 1).trans rfl; have hcz23_2 : w22.cell? ⟨gb198, 2, none⟩ = some (.int .i64 a2_2) := (blk_cell BK198.out 2).trans rfl; have hcz23_3 : w22.cell? ⟨gb198, 3, none⟩ = some (.int .i64 a2_3) := (blk_cell BK198.out 3).trans rfl; have hfz23_0 := blk_frozen BK198.out 0; have hfz23_1 := blk_frozen BK198.out 1; have hfz23_2 := blk_frozen BK198.out 2; have hfz23_3 := blk_frozen BK198.out 3) | ((with_reducible refine gate_callee (f := 63) rfl ?_); refine goesL_ (some 18) rfl rfl Tryd.func63 (by kernel_rfl) rfl #[.int .i64 a0, .int .i64 a1, .agg #[.int .i64 a2_0, .int .i64 a2_1, .int .i64 a2_2, .int .i64 a2_3]] rfl (by (try simp only [List.map_toArray, List.map_cons, List.map_nil]); first | done | rfl | (simp only [List.length_drop, List.length_take]; rfl)) ?_; (with_reducible refine (impl_BouncesIn.calls k a0 a1 a2_0 a2_1 a2_2 a2_3 t200 t201 _ A6.out).mono ?_); rintro e w24 ⟨rfl, hb⟩; refine ⟨_, rfl, ?_⟩; have n0_ := Aside0.mk (blk_below (g := gb198) (o := .cells #[.int .i64 a2_0, .int .i64 a2_1, .int .i64 a2_2, .int .i64 a2_3] 24 (0, 0)) (by (with_reducible repeat (first | refine blk_drewN ?_ _ | refine blk_drew ?_ | refine blk_alloc ?_ _)); exact BK198.out) hb); have n1_ := Aside0.mk (below_step (by repeat (first | (with_reducible first | exact HB.out | apply below_alloc | apply pw_below_drewN | apply below_drew1 | refine below_set ?_ GE198.out) | exact HB.out)) hb); clear BK198; clear HB; have BK198 := n0_; have HB := n1_; clear n0_ n1_; (try clear hb); (try clear hb2); (try clear hk); (try clear hi)))
         have n0_ := Aside0.mk (blk_drew BK198.out)
         have n1_ := Aside0.mk (below_drew1 HB.out)
         clear BK198
         clear HB
         have BK198 := n0_
         have HB := n1_
         clear n0_ n1_
         refine start_ (n := 21) (S := fun w' => w'.cell? ⟨gb198, 0, none⟩ = some (.int .i64 a2_0) ∧ w'.cell? ⟨gb198, 1, none⟩ = some (.int .i64 a2_1) ∧ w'.cell? ⟨gb198, 2, none⟩ = some (.int .i64 a2_2) ∧ w'.cell? ⟨gb198, 3, none⟩ = some (.int .i64 a2_3)) (ds := []) #[ff,ff,ff,ff,ff,ff,ff,ff,ff,ff,ff,ff,ff,ff,ff,ff,ff,ff,ff,ff,ff] (by kernel_rfl) rfl rfl ⟨(blk_cell BK198.out 0).trans rfl, (blk_cell BK198.out 1).trans rfl, (blk_cell BK198.out 2).trans rfl, (blk_cell BK198.out 3).trans rfl⟩ (fun hHeld => ?_); refine with_tabW impl_BallLine.tab4 impl_BallLine.bits4 (fun HT_ HW_ => ?_)
         generalize w24.drew = w25 at BK198 HB hHeld ⊢
         refine pure_ (i := 0) (N := some 21) (v := ?_) (a' := ?_) #[tt,ff,ff,ff,ff,ff,ff,ff,ff,ff,ff,ff,ff,ff,ff,ff,ff,ff,ff,ff,ff] rfl rfl (any_of HT_.out (by kernel_rfl)) (fun _ _ _ h => h) (Or.inl ⟨by rfl, ?_⟩) ?_ ?_
         rotate_left
         ·intro w'
          go_simp
          with_reducible rfl
         rotate_left
         ·simp only [Act.put, List.setIfInBounds_toArray, List.set_cons_zero, List.set_cons_succ, i64_w, i32_w]
          rfl
         refine pure_ (i := 1) (N := some 22) (v := ?_) (a' := ?_) #[tt,tt,ff,ff,ff,ff,ff,ff,ff,ff,ff,ff,ff,ff,ff,ff,ff,ff,ff,ff,ff] rfl rfl (any_of HT_.out (by kernel_rfl)) (fun _ _ _ h => h) (Or.inl ⟨by rfl, ?_⟩) ?_ ?_
         rotate_left
         ·intro w'
          go_simp
          with_reducible rfl
         rotate_left
         ·simp only [Act.put, List.setIfInBounds_toArray, List.set_cons_zero, List.set_cons_succ, i64_w, i32_w]
          rfl
         refine pure_ (i := 6) (N := some 27) (v := ?_) (a' := ?_) #[tt,tt,ff,ff,ff,ff,tt,ff,ff,ff,ff,ff,ff,ff,ff,ff,ff,ff,ff,ff,ff] rfl rfl (any_of HT_.out (by kernel_rfl)) (fun _ _ _ h => h) (Or.inl ⟨by rfl, ?_⟩) ?_ ?_
         rotate_left
         ·intro w'
          go_simp
          with_reducible rfl
         rotate_left
         ·simp only [Act.put, List.setIfInBounds_toArray, List.set_cons_zero, List.set_cons_succ, i64_w, i32_w]
          rfl
         refine pure_ (i := 10) (N := some 31) (v := ?_) (a' := ?_) #[tt,tt,ff,ff,ff,ff,tt,ff,ff,ff,tt,ff,ff,ff,ff,ff,ff,ff,ff,ff,ff] rfl rfl (any_of HT_.out (by kernel_rfl)) (fun _ _ _ h => h) (Or.inl ⟨by rfl, ?_⟩) ?_ ?_
         rotate_left
         ·intro w'
          go_simp
          with_reducible rfl
         rotate_left
         ·simp only [Act.put, List.setIfInBounds_toArray, List.set_cons_zero, List.set_cons_succ, i64_w, i32_w]
          rfl
         refine pure_ (i := 14) (N := some 35) (v := ?_) (a' := ?_) #[tt,tt,ff,ff,ff,ff,tt,ff,ff,ff,tt,ff,ff,ff,tt,ff,ff,ff,ff,ff,ff] rfl rfl (any_of HT_.out (by kernel_rfl)) (fun _ _ _ h => h) (Or.inl ⟨by rfl, ?_⟩) ?_ ?_
         rotate_left
         ·intro w'
          go_simp
          with_reducible rfl
         rotate_left
         ·simp only [Act.put, List.setIfInBounds_toArray, List.set_cons_zero, List.set_cons_succ, i64_w, i32_w]
          rfl
         refine pure_ (i := 15) (N := some 36) (v := ?_) (a' := ?_) #[tt,tt,ff,ff,ff,ff,tt,ff,ff,ff,tt,ff,ff,ff,tt,tt,ff,ff,ff,ff,ff] rfl rfl (any_of HT_.out (by kernel_rfl)) (fun _ _ _ h => h) (Or.inl ⟨by rfl, ?_⟩) ?_ ?_
         rotate_left
         ·intro w'
          go_simp
          with_reducible rfl
         rotate_left
         ·simp only [Act.put, List.setIfInBounds_toArray, List.set_cons_zero, List.set_cons_succ, i64_w, i32_w]
          rfl
         refine take_ (i := 16) (N := some 37) (v := ?_) (a' := ?_) #[tt,tt,ff,ff,ff,ff,tt,ff,ff,ff,tt,ff,ff,ff,tt,tt,tt,ff,ff,ff,ff] rfl rfl (take_ofW HT_.out HW_.out (by kernel_rfl)) (fun _ _ _ h => h) (Or.inl ⟨by rfl, ?_⟩) hHeld ?_ ?_
         rotate_left
         ·rintro w' ⟨s0, s1, s2, s3⟩
          go_simp
          with_reducible rfl
         rotate_left
         ·simp only [Act.put, List.setIfInBounds_toArray, List.set_cons_zero, List.set_cons_succ, i64_w, i32_w]
          rfl
         refine one_ (i := 2) (N := some 23) #[tt,tt,tt,ff,ff,ff,tt,ff,ff,ff,tt,ff,ff,ff,tt,tt,tt,ff,ff,ff,ff] rfl rfl (one_of HT_.out (by kernel_rfl)) (by decide) (fun K hK => ?_)
         refine goes_ Tryd.func17 (by kernel_rfl) rfl #[.int .i64 a0, .int .i64 a1] (by rfl) rfl rfl (by (try simp only [List.map_toArray, List.map_cons, List.map_nil]); first | done | rfl | (simp only [List.length_drop, List.length_take]; rfl)) ?_
         with_reducible refine (impl_BallPeriod.calls k a0 a1 t202 _ A7.out).mono ?_
         rintro e w' ⟨rfl, ⟨nd, rfl⟩⟩
         refine ⟨_, rfl, ?_⟩
         refine hK.out _ _ ⟨(blk_cell BK198.out 0).trans rfl, (blk_cell BK198.out 1).trans rfl, (blk_cell BK198.out 2).trans rfl, (blk_cell BK198.out 3).trans rfl⟩ (fun hHeld => ?_)
         clear hK K
         refine norm_ (a' := ?_) ?_ ?_
         rotate_left
         ·show Act.put _ (some 23) _ = _
          simp only [Act.put, List.setIfInBounds_toArray, List.set_cons_zero, List.set_cons_succ, i64_w, i32_w]
          rfl
         refine one_ (i := 3) (N := some 24) #[tt,tt,tt,tt,ff,ff,tt,ff,ff,ff,tt,ff,ff,ff,tt,tt,tt,ff,ff,ff,ff] rfl rfl (one_of HT_.out (by kernel_rfl)) (by decide) (fun K hK => ?_)
         refine goes_ Tryd.func64 (by kernel_rfl) rfl #[.int .i64 t202] (by rfl) rfl rfl (by (try simp only [List.map_toArray, List.map_cons, List.map_nil]); first | done | rfl | (simp only [List.length_drop, List.length_take]; rfl)) ?_
         with_reducible refine (impl_FormatInt.calls t202 t203 _ ?side1 A8.out).mono ?_
         (case side1 => exact PowTab.below HTAB.out (by repeat (first | (with_reducible first | exact HB.out | apply below_alloc | apply pw_below_drewN | apply below_drew1 | refine below_set ?_ GE198.out) | exact HB.out)))
         rintro e w26 ⟨rfl, hb⟩
         refine ⟨_, rfl, ?_⟩
         have n0_ := Aside0.mk (blk_below (g := gb198) (o := .cells #[.int .i64 a2_0, .int .i64 a2_1, .int .i64 a2_2, .int .i64 a2_3] 24 (0, 0)) (by (with_reducible repeat (first | refine blk_drewN ?_ _ | refine blk_drew ?_ | refine blk_alloc ?_ _)); exact BK198.out) hb)
         have n1_ := Aside0.mk (below_step (by repeat (first | (with_reducible first | exact HB.out | apply below_alloc | apply pw_below_drewN | apply below_drew1 | refine below_set ?_ GE198.out) | exact HB.out)) hb)
         clear BK198
         clear HB
         have BK198 := n0_
         have HB := n1_
         clear n0_ n1_
         (try clear hb)
         (try clear hb2)
         (try clear hk)
         (try clear hi)
         refine hK.out _ _ ⟨(blk_cell BK198.out 0).trans rfl, (blk_cell BK198.out 1).trans rfl, (blk_cell BK198.out 2).trans rfl, (blk_cell BK198.out 3).trans rfl⟩ (fun hHeld => ?_)
         clear hK K
         refine norm_ (a' := ?_) ?_ ?_
         rotate_left
         ·show Act.put _ (some 24) _ = _
          simp only [Act.put, List.setIfInBounds_toArray, List.set_cons_zero, List.set_cons_succ, i64_w, i32_w]
          rfl
         refine pure_ (i := 4) (N := some 25) (v := ?_) (a' := ?_) #[tt,tt,tt,tt,tt,ff,tt,ff,ff,ff,tt,ff,ff,ff,tt,tt,tt,ff,ff,ff,ff] rfl rfl (any_of HT_.out (by kernel_rfl)) (fun _ _ _ h => h) (Or.inl ⟨by rfl, ?_⟩) ?_ ?_
         rotate_left
         ·intro w'
          go_simp
          with_reducible rfl
         rotate_left
         ·simp only [Act.put, List.setIfInBounds_toArray, List.set_cons_zero, List.set_cons_succ, i64_w, i32_w]
          rfl
         refine pure_ (i := 5) (N := some 26) (v := ?_) (a' := ?_) #[tt,tt,tt,tt,tt,tt,tt,ff,ff,ff,tt,ff,ff,ff,tt,tt,tt,ff,ff,ff,ff] rfl rfl (any_of HT_.out (by kernel_rfl)) (fun _ _ _ h => h) (Or.inl ⟨by rfl, ?_⟩) ?_ ?_
         rotate_left
         ·intro w'
          go_simp
          with_reducible rfl
         rotate_left
         ·simp only [Act.put, List.setIfInBounds_toArray, List.set_cons_zero, List.set_cons_succ, i64_w, i32_w]
          rfl
         refine one_ (i := 7) (N := some 28) #[tt,tt,tt,tt,tt,tt,tt,tt,ff,ff,tt,ff,ff,ff,tt,tt,tt,ff,ff,ff,ff] rfl rfl (one_of HT_.out (by kernel_rfl)) (by decide) (fun K hK => ?_)
         refine goes_ Tryd.func64 (by kernel_rfl) rfl #[.int .i64 t200] (by rfl) rfl rfl (by (try simp only [List.map_toArray, List.map_cons, List.map_nil]); first | done | rfl | (simp only [List.length_drop, List.length_take]; rfl)) ?_
         with_reducible refine (impl_FormatInt.calls t200 t204 _ ?side1 A11.out).mono ?_
         (case side1 => exact PowTab.below HTAB.out (by repeat (first | (with_reducible first | exact HB.out | apply below_alloc | apply pw_below_drewN | apply below_drew1 | refine below_set ?_ GE198.out) | exact HB.out)))
         rintro e w27 ⟨rfl, hb⟩
         refine ⟨_, rfl, ?_⟩
         have n0_ := Aside0.mk (blk_below (g := gb198) (o := .cells #[.int .i64 a2_0, .int .i64 a2_1, .int .i64 a2_2, .int .i64 a2_3] 24 (0, 0)) (by (with_reducible repeat (first | refine blk_drewN ?_ _ | refine blk_drew ?_ | refine blk_alloc ?_ _)); exact BK198.out) hb)
         have n1_ := Aside0.mk (below_step (by repeat (first | (with_reducible first | exact HB.out | apply below_alloc | apply pw_below_drewN | apply below_drew1 | refine below_set ?_ GE198.out) | exact HB.out)) hb)
         clear BK198
         clear HB
         have BK198 := n0_
         have HB := n1_
         clear n0_ n1_
         (try clear hb)
         (try clear hb2)
         (try clear hk)
         (try clear hi)
         refine hK.out _ _ ⟨(blk_cell BK198.out 0).trans rfl, (blk_cell BK198.out 1).trans rfl, (blk_cell BK198.out 2).trans rfl, (blk_cell BK198.out 3).trans rfl⟩ (fun hHeld => ?_)
         clear hK K
         refine norm_ (a' := ?_) ?_ ?_
         rotate_left
         ·show Act.put _ (some 28) _ = _
          simp only [Act.put, List.setIfInBounds_toArray, List.set_cons_zero, List.set_cons_succ, i64_w, i32_w]
          rfl
         refine pure_ (i := 8) (N := some 29) (v := ?_) (a' := ?_) #[tt,tt,tt,tt,tt,tt,tt,tt,tt,ff,tt,ff,ff,ff,tt,tt,tt,ff,ff,ff,ff] rfl rfl (any_of HT_.out (by kernel_rfl)) (fun _ _ _ h => h) (Or.inl ⟨by rfl, ?_⟩) ?_ ?_
         rotate_left
         ·intro w'
          go_simp
          with_reducible rfl
         rotate_left
         ·simp only [Act.put, List.setIfInBounds_toArray, List.set_cons_zero, List.set_cons_succ, i64_w, i32_w]
          rfl
         refine pure_ (i := 9) (N := some 30) (v := ?_) (a' := ?_) #[tt,tt,tt,tt,tt,tt,tt,tt,tt,tt,tt,ff,ff,ff,tt,tt,tt,ff,ff,ff,ff] rfl rfl (any_of HT_.out (by kernel_rfl)) (fun _ _ _ h => h) (Or.inl ⟨by rfl, ?_⟩) ?_ ?_
         rotate_left
         ·intro w'
          go_simp
          with_reducible rfl
         rotate_left
         ·simp only [Act.put, List.setIfInBounds_toArray, List.set_cons_zero, List.set_cons_succ, i64_w, i32_w]
          rfl
         refine one_ (i := 11) (N := some 32) #[tt,tt,tt,tt,tt,tt,tt,tt,tt,tt,tt,tt,ff,ff,tt,tt,tt,ff,ff,ff,ff] rfl rfl (one_of HT_.out (by kernel_rfl)) (by decide) (fun K hK => ?_)
         refine goes_ Tryd.func64 (by kernel_rfl) rfl #[.int .i64 t201] (by rfl) rfl rfl (by (try simp only [List.map_toArray, List.map_cons, List.map_nil]); first | done | rfl | (simp only [List.length_drop, List.length_take]; rfl)) ?_
         with_reducible refine (impl_FormatInt.calls t201 t205 _ ?side1 A14.out).mono ?_
         (case side1 => exact PowTab.below HTAB.out (by repeat (first | (with_reducible first | exact HB.out | apply below_alloc | apply pw_below_drewN | apply below_drew1 | refine below_set ?_ GE198.out) | exact HB.out)))
         rintro e w28 ⟨rfl, hb⟩
         refine ⟨_, rfl, ?_⟩
         have n0_ := Aside0.mk (blk_below (g := gb198) (o := .cells #[.int .i64 a2_0, .int .i64 a2_1, .int .i64 a2_2, .int .i64 a2_3] 24 (0, 0)) (by (with_reducible repeat (first | refine blk_drewN ?_ _ | refine blk_drew ?_ | refine blk_alloc ?_ _)); exact BK198.out) hb)
         have n1_ := Aside0.mk (below_step (by repeat (first | (with_reducible first | exact HB.out | apply below_alloc | apply pw_below_drewN | apply below_drew1 | refine below_set ?_ GE198.out) | exact HB.out)) hb)
         clear BK198
         clear HB
         have BK198 := n0_
         have HB := n1_
         clear n0_ n1_
         (try clear hb)
         (try clear hb2)
         (try clear hk)
         (try clear hi)
         refine hK.out _ _ ⟨(blk_cell BK198.out 0).trans rfl, (blk_cell BK198.out 1).trans rfl, (blk_cell BK198.out 2).trans rfl, (blk_cell BK198.out 3).trans rfl⟩ (fun hHeld => ?_)
         clear hK K
         refine norm_ (a' := ?_) ?_ ?_
         rotate_left
         ·show Act.put _ (some 32) _ = _
          simp only [Act.put, List.setIfInBounds_toArray, List.set_cons_zero, List.set_cons_succ, i64_w, i32_w]
          rfl
         refine pure_ (i := 12) (N := some 33) (v := ?_) (a' := ?_) #[tt,tt,tt,tt,tt,tt,tt,tt,tt,tt,tt,tt,tt,ff,tt,tt,tt,ff,ff,ff,ff] rfl rfl (any_of HT_.out (by kernel_rfl)) (fun _ _ _ h => h) (Or.inl ⟨by rfl, ?_⟩) ?_ ?_
         rotate_left
         ·intro w'
          go_simp
          with_reducible rfl
         rotate_left
         ·simp only [Act.put, List.setIfInBounds_toArray, List.set_cons_zero, List.set_cons_succ, i64_w, i32_w]
          rfl
         refine pure_ (i := 13) (N := some 34) (v := ?_) (a' := ?_) #[tt,tt,tt,tt,tt,tt,tt,tt,tt,tt,tt,tt,tt,tt,tt,tt,tt,ff,ff,ff,ff] rfl rfl (any_of HT_.out (by kernel_rfl)) (fun _ _ _ h => h) (Or.inl ⟨by rfl, ?_⟩) ?_ ?_
         rotate_left
         ·intro w'
          go_simp
          with_reducible rfl
         rotate_left
         ·simp only [Act.put, List.setIfInBounds_toArray, List.set_cons_zero, List.set_cons_succ, i64_w, i32_w]
          rfl
         refine one_ (i := 17) (N := some 38) #[tt,tt,tt,tt,tt,tt,tt,tt,tt,tt,tt,tt,tt,tt,tt,tt,tt,tt,ff,ff,ff] rfl rfl (one_of HT_.out (by kernel_rfl)) (by decide) (fun K hK => ?_)
         refine goes_ Tryd.func15 (by kernel_rfl) rfl #[.int .i64 a0, .int .i64 a1, .agg #[.int .i64 a2_0, .int .i64 a2_1, .int .i64 a2_2, .int .i64 a2_3]] (by rfl) rfl rfl (by (try simp only [List.map_toArray, List.map_cons, List.map_nil]); first | done | rfl | (simp only [List.length_drop, List.length_take]; rfl)) ?_
         with_reducible refine (impl_StepsToCorner.calls k a0 a1 a2_0 a2_1 a2_2 a2_3 t206 _ A17.out).mono ?_
         rintro e w29 ⟨rfl, hb⟩
         refine ⟨_, rfl, ?_⟩
         have n0_ := Aside0.mk (blk_below (g := gb198) (o := .cells #[.int .i64 a2_0, .int .i64 a2_1, .int .i64 a2_2, .int .i64 a2_3] 24 (0, 0)) (by (with_reducible repeat (first | refine blk_drewN ?_ _ | refine blk_drew ?_ | refine blk_alloc ?_ _)); exact BK198.out) hb)
         have n1_ := Aside0.mk (below_step (by repeat (first | (with_reducible first | exact HB.out | apply below_alloc | apply pw_below_drewN | apply below_drew1 | refine below_set ?_ GE198.out) | exact HB.out)) hb)
         clear BK198
         clear HB
         have BK198 := n0_
         have HB := n1_
         clear n0_ n1_
         (try clear hb)
         (try clear hb2)
         (try clear hk)
         (try clear hi)
         refine hK.out _ _ ⟨(blk_cell BK198.out 0).trans rfl, (blk_cell BK198.out 1).trans rfl, (blk_cell BK198.out 2).trans rfl, (blk_cell BK198.out 3).trans rfl⟩ (fun hHeld => ?_)
         clear hK K
         refine norm_ (a' := ?_) ?_ ?_
         rotate_left
         ·show Act.put _ (some 38) _ = _
          simp only [Act.put, List.setIfInBounds_toArray, List.set_cons_zero, List.set_cons_succ, i64_w, i32_w]
          rfl
         refine one_ (i := 18) (N := some 39) #[tt,tt,tt,tt,tt,tt,tt,tt,tt,tt,tt,tt,tt,tt,tt,tt,tt,tt,tt,ff,ff] rfl rfl (one_of HT_.out (by kernel_rfl)) (by decide) (fun K hK => ?_)
         refine goes_ Tryd.func64 (by kernel_rfl) rfl #[.int .i64 t206] (by rfl) rfl rfl (by (try simp only [List.map_toArray, List.map_cons, List.map_nil]); first | done | rfl | (simp only [List.length_drop, List.length_take]; rfl)) ?_
         with_reducible refine (impl_FormatInt.calls t206 t207 _ ?side1 A18.out).mono ?_
         (case side1 => exact PowTab.below HTAB.out (by repeat (first | (with_reducible first | exact HB.out | apply below_alloc | apply pw_below_drewN | apply below_drew1 | refine below_set ?_ GE198.out) | exact HB.out)))
         rintro e w30 ⟨rfl, hb⟩
         refine ⟨_, rfl, ?_⟩
         have n0_ := Aside0.mk (blk_below (g := gb198) (o := .cells #[.int .i64 a2_0, .int .i64 a2_1, .int .i64 a2_2, .int .i64 a2_3] 24 (0, 0)) (by (with_reducible repeat (first | refine blk_drewN ?_ _ | refine blk_drew ?_ | refine blk_alloc ?_ _)); exact BK198.out) hb)
         have n1_ := Aside0.mk (below_step (by repeat (first | (with_reducible first | exact HB.out | apply below_alloc | apply pw_below_drewN | apply below_drew1 | refine below_set ?_ GE198.out) | exact HB.out)) hb)
         clear BK198
         clear HB
         have BK198 := n0_
         have HB := n1_
         clear n0_ n1_
         (try clear hb)
         (try clear hb2)
         (try clear hk)
         (try clear hi)
         refine hK.out _ _ ⟨(blk_cell BK198.out 0).trans rfl, (blk_cell BK198.out 1).trans rfl, (blk_cell BK198.out 2).trans rfl, (blk_cell BK198.out 3).trans rfl⟩ (fun hHeld => ?_)
         clear hK K
         refine norm_ (a' := ?_) ?_ ?_
         rotate_left
         ·show Act.put _ (some 39) _ = _
          simp only [Act.put, List.setIfInBounds_toArray, List.set_cons_zero, List.set_cons_succ, i64_w, i32_w]
          rfl
         refine pure_ (i := 19) (N := some 40) (v := ?_) (a' := ?_) #[tt,tt,tt,tt,tt,tt,tt,tt,tt,tt,tt,tt,tt,tt,tt,tt,tt,tt,tt,tt,ff] rfl rfl (any_of HT_.out (by kernel_rfl)) (fun _ _ _ h => h) (Or.inl ⟨by rfl, ?_⟩) ?_ ?_
         rotate_left
         ·intro w'
          go_simp
          with_reducible rfl
         rotate_left
         ·simp only [Act.put, List.setIfInBounds_toArray, List.set_cons_zero, List.set_cons_succ, i64_w, i32_w]
          rfl
         refine pure_ (i := 20) (N := some 6) (v := ?_) (a' := ?_) #[tt,tt,tt,tt,tt,tt,tt,tt,tt,tt,tt,tt,tt,tt,tt,tt,tt,tt,tt,tt,tt] rfl rfl (any_of HT_.out (by kernel_rfl)) (fun _ _ _ h => h) (Or.inl ⟨by rfl, ?_⟩) ?_ ?_
         rotate_left
         ·intro w'
          go_simp
          with_reducible rfl
         rotate_left
         ·simp only [Act.put, List.setIfInBounds_toArray, List.set_cons_zero, List.set_cons_succ, i64_w, i32_w]
          rfl
         refine done_ (done_of HT_.out (by kernel_rfl)) ?_
         try go_wp2
         go_ret
         exact ⟨by first | rfl | (simp [errW_none, errW_some] <;> rfl) | (simp [*, errW_none, errW_some] <;> rfl), by repeat (first | (with_reducible first | exact HB.out | apply below_alloc | apply pw_below_drewN | apply below_drew1 | refine below_set ?_ GE198.out) | exact HB.out)⟩
        ·rw [if_neg c19] at H
         exact absurd H (by simp)
       ·rw [if_neg c16] at H
        exact absurd H (by simp)
      ·rw [if_neg c15] at H
       exact absurd H (by simp)
     ·rw [if_neg c13] at H
      exact absurd H (by simp)
    ·rw [if_neg c12] at H
     exact absurd H (by simp)
   ·rw [if_neg c10] at H
    exact absurd H (by simp)
  ·rw [if_neg c9] at H
   exact absurd H (by simp)
 ·replace c5 := Bool.eq_false_iff.mpr c5
  subst c5
  have H1 : (some (⟨#[]⟩ : ByteArray)) = some r := by rw [if_neg (show ¬ (false = true) by decide)] at H; exact H
  clear H
  have H := H1
  clear H1
  obtain rfl := Option.some.inj H
  go_enter Tryd.func18, Tryd.ntmps18
  go_wp2_with (first | ((with_reducible refine gate_dst (N := 5) rfl ?_); refine box_event ?hg (N := 5) ?hd (cs := #[.int .i64 a2_0, .int .i64 a2_1, .int .i64 a2_2, .int .i64 a2_3]) (t := 24) ?hr ?_; (case hd => rfl); (case hg => rfl); (case hr => first | (go_simp; done) | (go_simp; rfl)); intro gb198 hg w31 hbox hb; have n0_ := Aside0.mk (below_step (by repeat (first | (with_reducible first | exact HB.out | apply below_alloc | apply pw_below_drewN | apply below_drew1) | exact HB.out)) hb); have n1_ := Aside0.mk (hbox); have n2_ := Aside0.mk ((by rw [hg]; exact (below_size (by repeat (first | (with_reducible first | exact HB.out | apply below_alloc | apply pw_below_drewN | apply below_drew1) | exact HB.out))) : w.heap.size ≤ gb198)); have n3_ := Aside0.mk ((by rw [hg]; exact (below_size (by repeat (first | (with_reducible first | exact HB.out | apply below_alloc | apply pw_below_drewN | apply below_drew1) | exact HB.out))) : w.heap.size ≤ gb198)); clear HB; have HB := n0_; have BK198 := n1_; have GW198 := n2_; have GE198 := n3_; clear n0_ n1_ n2_ n3_; clear hb hbox hg; have hcz32_0 : w31.cell? ⟨gb198, 0, none⟩ = some (.int .i64 a2_0) := (blk_cell BK198.out 0).trans rfl; have hcz32_1 : w31.cell? ⟨gb198, 1, none⟩ = some (.int .i64 a2_1) := (blk_cell BK198.out 1).trans rfl; have hcz32_2 : w31.cell? ⟨gb198, 2, none⟩ = some (.int .i64 a2_2) := (blk_cell BK198.out 2).trans rfl; have hcz32_3 : w31.cell? ⟨gb198, 3, none⟩ = some (.int .i64 a2_3) := (blk_cell BK198.out 3).trans rfl; have hfz32_0 := blk_frozen BK198.out 0; have hfz32_1 := blk_frozen BK198.out 1; have hfz32_2 := blk_frozen BK198.out 2; have hfz32_3 := blk_frozen BK198.out 3) | ((with_reducible refine gate_callee (f := 59) rfl ?_); refine goesL_ (some 12) rfl rfl Tryd.func59 (by kernel_rfl) rfl #[.int .i64 a0, .int .i64 a1, .agg #[.int .i64 a2_0, .int .i64 a2_1, .int .i64 a2_2, .int .i64 a2_3]] rfl (by (try simp only [List.map_toArray, List.map_cons, List.map_nil]); first | done | rfl | (simp only [List.length_drop, List.length_take]; rfl)) ?_; (with_reducible refine (impl_BallOk.calls a0 a1 a2_0 a2_1 a2_2 a2_3 false _ A4.out).mono ?_); rintro e w33 ⟨rfl, hb⟩; refine ⟨_, rfl, ?_⟩; have n0_ := Aside0.mk (blk_below (g := gb198) (o := .cells #[.int .i64 a2_0, .int .i64 a2_1, .int .i64 a2_2, .int .i64 a2_3] 24 (0, 0)) (by (with_reducible repeat (first | refine blk_drewN ?_ _ | refine blk_drew ?_ | refine blk_alloc ?_ _)); exact BK198.out) hb); have n1_ := Aside0.mk (below_step (by repeat (first | (with_reducible first | exact HB.out | apply below_alloc | apply pw_below_drewN | apply below_drew1 | refine below_set ?_ GE198.out) | exact HB.out)) hb); clear BK198; clear HB; have BK198 := n0_; have HB := n1_; clear n0_ n1_; (try clear hb); (try clear hb2); (try clear hk); (try clear hi)))
  go_ret
  exact ⟨by first | rfl | (simp [errW_none, errW_some] <;> rfl) | (simp [*, errW_none, errW_some] <;> rfl), by repeat (first | (with_reducible first | exact HB.out | apply below_alloc | apply pw_below_drewN | apply below_drew1 | refine below_set ?_ GE198.out) | exact HB.out)⟩

/-! ### impl_BallAfter: function 19 -/
mutual
def impl_BallAfter.j0 : Nat → Int → Int → Int → Bool → Int → Int → Int → Int → Option (Int × Int × Int × Int × Bool)
 | 0, _, _, _, _, _, _, _, _ => none
 | k + 1, x0, x1, x3, x23, x209000, x209001, x209002, x209003 => if x23 = true then (some (0, 0, 0, 0, false)) else (impl_BallAfter.l0 k x0 x1 x3 0 x209000 x209001 x209002 x209003)
def impl_BallAfter.l0 : Nat → Int → Int → Int → Int → Int → Int → Int → Int → Option (Int × Int × Int × Int × Bool)
 | 0, _, _, _, _, _, _, _, _ => none
 | k + 1, x0, x1, x3, x10, x209000, x209001, x209002, x209003 => if x10 < x3 then ((impl_BallStep.f x0 x1 x209000 x209001 x209002 x209003).bind fun bt211 => (impl_BallAfter.l0 k x0 x1 x3 (wrap64 (x10 + 1)) bt211.1 bt211.2.1 bt211.2.2.1 bt211.2.2.2.1)) else (some (x209000, x209001, x209002, x209003, true))
end
def impl_BallAfter.f (k : Nat) (a0 : Int) (a1 : Int) (a2_0 : Int) (a2_1 : Int) (a2_2 : Int) (a2_3 : Int) (a3 : Int) : Option (Int × Int × Int × Int × Bool) := (impl_BallOk.f a0 a1 a2_0 a2_1 a2_2 a2_3).bind fun t210 => (if t210 = true then (if a3 < 0 then (impl_BallAfter.j0 k a0 a1 a3 true a2_0 a2_1 a2_2 a2_3) else (impl_BallAfter.j0 k a0 a1 a3 (decide (a3 > 10000)) a2_0 a2_1 a2_2 a2_3)) else (impl_BallAfter.j0 k a0 a1 a3 true a2_0 a2_1 a2_2 a2_3))
set_option maxHeartbeats 8000000 in
set_option maxRecDepth 100000 in
theorem impl_BallAfter.calls (k : Nat) (a0 : Int) (a1 : Int) (a2_0 : Int) (a2_1 : Int) (a2_2 : Int) (a2_3 : Int) (a3 : Int) (r1 : Int) (r2 : Int) (r3 : Int) (r4 : Int) (r5 : Bool) (w : World) (h : impl_BallAfter.f k a0 a1 a2_0 a2_1 a2_2 a2_3 a3 = some (r1, r2, r3, r4, r5)) :
  Calls Tryd.prog 19 #[.int .i64 a0, .int .i64 a1, .agg #[.int .i64 a2_0, .int .i64 a2_1, .int .i64 a2_2, .int .i64 a2_3], .int .i64 a3] w fun e w' => e = .returned (.tuple #[.agg #[.int .i64 r1, .int .i64 r2, .int .i64 r3, .int .i64 r4], .bool r5]) ∧ Below w.heap.size w w' := by
 have hu24 := Tryd.underlying24
 have HB := Aside0.mk (Below.refl w.heap.size w)
 have H : ((impl_BallOk.f a0 a1 a2_0 a2_1 a2_2 a2_3).bind fun t210 => (if t210 = true then (if a3 < 0 then (impl_BallAfter.j0 k a0 a1 a3 true a2_0 a2_1 a2_2 a2_3) else (impl_BallAfter.j0 k a0 a1 a3 (decide (a3 > 10000)) a2_0 a2_1 a2_2 a2_3)) else (impl_BallAfter.j0 k a0 a1 a3 true a2_0 a2_1 a2_2 a2_3))) = some (r1, r2, r3, r4, r5) := h
 clear h
 have HC5 := Aside0.mk H
 clear H
 go_enter Tryd.func19, Tryd.ntmps19
 go_upto_region 1 with (first | ((with_reducible refine gate_dst (N := 6) rfl ?_); refine box_event ?hg (N := 6) ?hd (cs := #[.int .i64 a2_0, .int .i64 a2_1, .int .i64 a2_2, .int .i64 a2_3]) (t := 24) ?hr ?_; (case hd => rfl); (case hg => rfl); (case hr => first | (go_simp; done) | (go_simp; rfl)); intro gb208 hg w6 hbox hb; have n0_ := Aside0.mk (below_step (by repeat (first | (with_reducible first | exact HB.out | apply below_alloc | apply pw_below_drewN | apply below_drew1) | exact HB.out)) hb); have n1_ := Aside0.mk (hbox); have n2_ := Aside0.mk ((by rw [hg]; exact (below_size (by repeat (first | (with_reducible first | exact HB.out | apply below_alloc | apply pw_below_drewN | apply below_drew1) | exact HB.out))) : w.heap.size ≤ gb208)); have n3_ := Aside0.mk ((by rw [hg]; exact (below_size (by repeat (first | (with_reducible first | exact HB.out | apply below_alloc | apply pw_below_drewN | apply below_drew1) | exact HB.out))) : w.heap.size ≤ gb208)); clear HB; have HB := n0_; have BK208 := n1_; have GW208 := n2_; have GE208 := n3_; clear n0_ n1_ n2_ n3_; clear hb hbox hg) | ((with_reducible refine gate_dst (N := 8) rfl ?_); refine box_event ?hg (N := 8) ?hd (cs := #[.int .i64 0, .int .i64 0, .int .i64 0, .int .i64 0]) (t := 24) ?hr ?_; (case hd => rfl); (case hg => rfl); (case hr => first | (go_simp; done) | (go_simp; rfl)); intro gb209 hg w7 hbox hb; have n0_ := Aside0.mk (blk_below (g := gb208) (o := .cells #[.int .i64 a2_0, .int .i64 a2_1, .int .i64 a2_2, .int .i64 a2_3] 24 (0, 0)) (by (with_reducible repeat (first | refine blk_drewN ?_ _ | refine blk_drew ?_ | refine blk_alloc ?_ _)); exact BK208.out) hb); have n1_ := Aside0.mk (below_step (by repeat (first | (with_reducible first | exact HB.out | apply below_alloc | apply pw_below_drewN | apply below_drew1 | refine below_set ?_ GE208.out) | exact HB.out)) hb); have n2_ := Aside0.mk (hbox); have n3_ := Aside0.mk ((by rw [hg]; exact (below_size (by repeat (first | (with_reducible first | exact HB.out | apply below_alloc | apply pw_below_drewN | apply below_drew1 | refine below_set ?_ GE208.out) | exact HB.out))) : w.heap.size ≤ gb209)); have n4_ := Aside0.mk ((by rw [hg]; exact (below_size (by repeat (first | (with_reducible first | exact HB.out | apply below_alloc | apply pw_below_drewN | apply below_drew1 | refine below_set ?_ GE208.out) | exact HB.out))) : w.heap.size ≤ gb209)); have n5_ := Aside0.mk ((by rw [hg]; exact Nat.ne_of_lt (blk_lt (g := gb208) (o := .cells #[.int .i64 a2_0, .int .i64 a2_1, .int .i64 a2_2, .int .i64 a2_3] 24 (0, 0)) (by (with_reducible repeat (first | refine blk_drewN ?_ _ | refine blk_drew ?_ | refine blk_alloc ?_ _)); exact BK208.out)) : gb208 ≠ gb209)); have n6_ := Aside0.mk ((by rw [hg]; exact Nat.ne_of_gt (blk_lt (g := gb208) (o := .cells #[.int .i64 a2_0, .int .i64 a2_1, .int .i64 a2_2, .int .i64 a2_3] 24 (0, 0)) (by (with_reducible repeat (first | refine blk_drewN ?_ _ | refine blk_drew ?_ | refine blk_alloc ?_ _)); exact BK208.out)) : gb209 ≠ gb208)); clear BK208; clear HB; have BK208 := n0_; have HB := n1_; have BK209 := n2_; have GW209 := n3_; have GE209 := n4_; have NB208_209 := n5_; have NB209_208 := n6_; clear n0_ n1_ n2_ n3_ n4_ n5_ n6_; clear hb hbox hg))
 (try simp only [Act.put, List.setIfInBounds_toArray, List.set_cons_zero, List.set_cons_succ])
 go_cut [23] (fun v23 wc => ∃ (kq : Nat) (x23_4 : Bool), v23 = .bool x23_4 ∧ Aside0 (impl_BallAfter.j0 kq a0 a1 a3 x23_4 a2_0 a2_1 a2_2 a2_3 = some (r1, r2, r3, r4, r5)) ∧ Aside0 (kq ≤ k) ∧ Aside0 (wc.heap[gb208]? = some (.cells #[.int .i64 a2_0, .int .i64 a2_1, .int .i64 a2_2, .int .i64 a2_3] 24 (0, 0))) ∧ Aside0 (wc.heap[gb209]? = some (.cells #[.int .i64 0, .int .i64 0, .int .i64 0, .int .i64 0] 24 (0, 0))) ∧ Aside0 (Below w.heap.size w wc))
 case first =>
  have H := HC5.out
  clear HC5
  replace H := Option.bind_eq_some_iff.mp H
  obtain ⟨t210, A80, H⟩ := H
  replace H : (if t210 = true then (if a3 < 0 then (impl_BallAfter.j0 k a0 a1 a3 true a2_0 a2_1 a2_2 a2_3) else (impl_BallAfter.j0 k a0 a1 a3 (decide (a3 > 10000)) a2_0 a2_1 a2_2 a2_3)) else (impl_BallAfter.j0 k a0 a1 a3 true a2_0 a2_1 a2_2 a2_3)) = some (r1, r2, r3, r4, r5) := H
  have A8 := Aside0.mk A80
  clear A80
  by_cases c9 : t210 = true
  ·subst c9
   have H1 : (if a3 < 0 then (impl_BallAfter.j0 k a0 a1 a3 true a2_0 a2_1 a2_2 a2_3) else (impl_BallAfter.j0 k a0 a1 a3 (decide (a3 > 10000)) a2_0 a2_1 a2_2 a2_3)) = some (r1, r2, r3, r4, r5) := by rw [if_pos rfl] at H; exact H
   clear H
   have H := H1
   clear H1
   by_cases c10 : a3 < 0
   ·rw [if_pos c10] at H
    have c10b0 : decide (a3 < 0) = true := decide_eq_true c10
    clear c10
    (first | rw [c10b0] | (simp only [i64_w, i32_w]; rw [c10b0]) | skip)
    have H' := Aside0.mk H
    clear H
    have hnb11 := NB208_209.out
    have hnc11 := NB209_208.out
    have hcz12_0 : w7.cell? ⟨gb208, 0, none⟩ = some (.int .i64 a2_0) := (blk_cell BK208.out 0).trans rfl
    have hcz12_1 : w7.cell? ⟨gb208, 1, none⟩ = some (.int .i64 a2_1) := (blk_cell BK208.out 1).trans rfl
    have hcz12_2 : w7.cell? ⟨gb208, 2, none⟩ = some (.int .i64 a2_2) := (blk_cell BK208.out 2).trans rfl
    have hcz12_3 : w7.cell? ⟨gb208, 3, none⟩ = some (.int .i64 a2_3) := (blk_cell BK208.out 3).trans rfl
    have hfz12_0 := blk_frozen BK208.out 0
    have hfz12_1 := blk_frozen BK208.out 1
    have hfz12_2 := blk_frozen BK208.out 2
    have hfz12_3 := blk_frozen BK208.out 3
    go_wp2_with (first | ((with_reducible refine gate_callee (f := 59) rfl ?_); refine goesL_ (some 14) rfl rfl Tryd.func59 (by kernel_rfl) rfl #[.int .i64 a0, .int .i64 a1, .agg #[.int .i64 a2_0, .int .i64 a2_1, .int .i64 a2_2, .int .i64 a2_3]] rfl (by (try simp only [List.map_toArray, List.map_cons, List.map_nil]); first | done | rfl | (simp only [List.length_drop, List.length_take]; rfl)) ?_; (with_reducible refine (impl_BallOk.calls a0 a1 a2_0 a2_1 a2_2 a2_3 true _ A8.out).mono ?_); rintro e w13 ⟨rfl, hb⟩; refine ⟨_, rfl, ?_⟩; have n0_ := Aside0.mk (blk_below (g := gb208) (o := .cells #[.int .i64 a2_0, .int .i64 a2_1, .int .i64 a2_2, .int .i64 a2_3] 24 (0, 0)) (by (with_reducible repeat (first | refine blk_drewN ?_ _ | refine blk_drew ?_ | refine blk_alloc ?_ _)); exact BK208.out) hb); have n1_ := Aside0.mk (blk_below (g := gb209) (o := .cells #[.int .i64 0, .int .i64 0, .int .i64 0, .int .i64 0] 24 (0, 0)) (by (with_reducible repeat (first | refine blk_drewN ?_ _ | refine blk_drew ?_ | refine blk_alloc ?_ _)); exact BK209.out) hb); have n2_ := Aside0.mk (below_step (by repeat (first | (with_reducible first | exact HB.out | apply below_alloc | apply pw_below_drewN | apply below_drew1 | refine below_set ?_ GE208.out | refine below_set ?_ GE209.out) | exact HB.out)) hb); clear BK208; clear BK209; clear HB; have BK208 := n0_; have BK209 := n1_; have HB := n2_; clear n0_ n1_ n2_; (try clear hb); (try clear hb2); (try clear hk); (try clear hi)))
    go_meet
    case rel => exact ⟨_, (true), (by first | rfl | (simp; done) | (simp [*]; done)), H', ⟨by first | omega | exact Nat.le_refl _⟩, ⟨by (with_reducible repeat (first | refine blk_drewN ?_ _ | refine blk_drew ?_ | refine blk_alloc ?_ _)); exact BK208.out⟩, ⟨by (with_reducible repeat (first | refine blk_drewN ?_ _ | refine blk_drew ?_ | refine blk_alloc ?_ _)); exact BK209.out⟩, ⟨by repeat (first | (with_reducible first | exact HB.out | apply below_alloc | apply pw_below_drewN | apply below_drew1 | refine below_set ?_ GE208.out | refine below_set ?_ GE209.out) | exact HB.out)⟩⟩
   ·rw [if_neg c10] at H
    have c10b0 : decide (a3 < 0) = false := decide_eq_false c10
    clear c10
    (first | rw [c10b0] | (simp only [i64_w, i32_w]; rw [c10b0]) | skip)
    have H' := Aside0.mk H
    clear H
    have hnb14 := NB208_209.out
    have hnc14 := NB209_208.out
    have hcz15_0 : w7.cell? ⟨gb208, 0, none⟩ = some (.int .i64 a2_0) := (blk_cell BK208.out 0).trans rfl
    have hcz15_1 : w7.cell? ⟨gb208, 1, none⟩ = some (.int .i64 a2_1) := (blk_cell BK208.out 1).trans rfl
    have hcz15_2 : w7.cell? ⟨gb208, 2, none⟩ = some (.int .i64 a2_2) := (blk_cell BK208.out 2).trans rfl
    have hcz15_3 : w7.cell? ⟨gb208, 3, none⟩ = some (.int .i64 a2_3) := (blk_cell BK208.out 3).trans rfl
    have hfz15_0 := blk_frozen BK208.out 0
    have hfz15_1 := blk_frozen BK208.out 1
    have hfz15_2 := blk_frozen BK208.out 2
    have hfz15_3 := blk_frozen BK208.out 3
    go_wp2_with (first | ((with_reducible refine gate_callee (f := 59) rfl ?_); refine goesL_ (some 14) rfl rfl Tryd.func59 (by kernel_rfl) rfl #[.int .i64 a0, .int .i64 a1, .agg #[.int .i64 a2_0, .int .i64 a2_1, .int .i64 a2_2, .int .i64 a2_3]] rfl (by (try simp only [List.map_toArray, List.map_cons, List.map_nil]); first | done | rfl | (simp only [List.length_drop, List.length_take]; rfl)) ?_; (with_reducible refine (impl_BallOk.calls a0 a1 a2_0 a2_1 a2_2 a2_3 true _ A8.out).mono ?_); rintro e w16 ⟨rfl, hb⟩; refine ⟨_, rfl, ?_⟩; have n0_ := Aside0.mk (blk_below (g := gb208) (o := .cells #[.int .i64 a2_0, .int .i64 a2_1, .int .i64 a2_2, .int .i64 a2_3] 24 (0, 0)) (by (with_reducible repeat (first | refine blk_drewN ?_ _ | refine blk_drew ?_ | refine blk_alloc ?_ _)); exact BK208.out) hb); have n1_ := Aside0.mk (blk_below (g := gb209) (o := .cells #[.int .i64 0, .int .i64 0, .int .i64 0, .int .i64 0] 24 (0, 0)) (by (with_reducible repeat (first | refine blk_drewN ?_ _ | refine blk_drew ?_ | refine blk_alloc ?_ _)); exact BK209.out) hb); have n2_ := Aside0.mk (below_step (by repeat (first | (with_reducible first | exact HB.out | apply below_alloc | apply pw_below_drewN | apply below_drew1 | refine below_set ?_ GE208.out | refine below_set ?_ GE209.out) | exact HB.out)) hb); clear BK208; clear BK209; clear HB; have BK208 := n0_; have BK209 := n1_; have HB := n2_; clear n0_ n1_ n2_; (try clear hb); (try clear hb2); (try clear hk); (try clear hi)))
    go_meet
    case rel => exact ⟨_, (decide (a3 > 10000)), (by first | rfl | (simp; done) | (simp [*]; done)), H', ⟨by first | omega | exact Nat.le_refl _⟩, ⟨by (with_reducible repeat (first | refine blk_drewN ?_ _ | refine blk_drew ?_ | refine blk_alloc ?_ _)); exact BK208.out⟩, ⟨by (with_reducible repeat (first | refine blk_drewN ?_ _ | refine blk_drew ?_ | refine blk_alloc ?_ _)); exact BK209.out⟩, ⟨by repeat (first | (with_reducible first | exact HB.out | apply below_alloc | apply pw_below_drewN | apply below_drew1 | refine below_set ?_ GE208.out | refine below_set ?_ GE209.out) | exact HB.out)⟩⟩
  ·replace c9 := Bool.eq_false_iff.mpr c9
   subst c9
   have H1 : (impl_BallAfter.j0 k a0 a1 a3 true a2_0 a2_1 a2_2 a2_3) = some (r1, r2, r3, r4, r5) := by rw [if_neg (show ¬ (false = true) by decide)] at H; exact H
   clear H
   have H := H1
   clear H1
   have H' := Aside0.mk H
   clear H
   have hnb17 := NB208_209.out
   have hnc17 := NB209_208.out
   have hcz18_0 : w7.cell? ⟨gb208, 0, none⟩ = some (.int .i64 a2_0) := (blk_cell BK208.out 0).trans rfl
   have hcz18_1 : w7.cell? ⟨gb208, 1, none⟩ = some (.int .i64 a2_1) := (blk_cell BK208.out 1).trans rfl
   have hcz18_2 : w7.cell? ⟨gb208, 2, none⟩ = some (.int .i64 a2_2) := (blk_cell BK208.out 2).trans rfl
   have hcz18_3 : w7.cell? ⟨gb208, 3, none⟩ = some (.int .i64 a2_3) := (blk_cell BK208.out 3).trans rfl
   have hfz18_0 := blk_frozen BK208.out 0
   have hfz18_1 := blk_frozen BK208.out 1
   have hfz18_2 := blk_frozen BK208.out 2
   have hfz18_3 := blk_frozen BK208.out 3
   go_wp2_with (first | ((with_reducible refine gate_callee (f := 59) rfl ?_); refine goesL_ (some 14) rfl rfl Tryd.func59 (by kernel_rfl) rfl #[.int .i64 a0, .int .i64 a1, .agg #[.int .i64 a2_0, .int .i64 a2_1, .int .i64 a2_2, .int .i64 a2_3]] rfl (by (try simp only [List.map_toArray, List.map_cons, List.map_nil]); first | done | rfl | (simp only [List.length_drop, List.length_take]; rfl)) ?_; (with_reducible refine (impl_BallOk.calls a0 a1 a2_0 a2_1 a2_2 a2_3 false _ A8.out).mono ?_); rintro e w19 ⟨rfl, hb⟩; refine ⟨_, rfl, ?_⟩; have n0_ := Aside0.mk (blk_below (g := gb208) (o := .cells #[.int .i64 a2_0, .int .i64 a2_1, .int .i64 a2_2, .int .i64 a2_3] 24 (0, 0)) (by (with_reducible repeat (first | refine blk_drewN ?_ _ | refine blk_drew ?_ | refine blk_alloc ?_ _)); exact BK208.out) hb); have n1_ := Aside0.mk (blk_below (g := gb209) (o := .cells #[.int .i64 0, .int .i64 0, .int .i64 0, .int .i64 0] 24 (0, 0)) (by (with_reducible repeat (first | refine blk_drewN ?_ _ | refine blk_drew ?_ | refine blk_alloc ?_ _)); exact BK209.out) hb); have n2_ := Aside0.mk (below_step (by repeat (first | (with_reducible first | exact HB.out | apply below_alloc | apply pw_below_drewN | apply below_drew1 | refine below_set ?_ GE208.out | refine below_set ?_ GE209.out) | exact HB.out)) hb); clear BK208; clear BK209; clear HB; have BK208 := n0_; have BK209 := n1_; have HB := n2_; clear n0_ n1_ n2_; (try clear hb); (try clear hb2); (try clear hk); (try clear hi)))
   go_meet
   case rel => exact ⟨_, (true), (by first | rfl | (simp; done) | (simp [*]; done)), H', ⟨by first | omega | exact Nat.le_refl _⟩, ⟨by (with_reducible repeat (first | refine blk_drewN ?_ _ | refine blk_drew ?_ | refine blk_alloc ?_ _)); exact BK208.out⟩, ⟨by (with_reducible repeat (first | refine blk_drewN ?_ _ | refine blk_drew ?_ | refine blk_alloc ?_ _)); exact BK209.out⟩, ⟨by repeat (first | (with_reducible first | exact HB.out | apply below_alloc | apply pw_below_drewN | apply below_drew1 | refine below_set ?_ GE208.out | refine below_set ?_ GE209.out) | exact HB.out)⟩⟩
 case rest =>
  clear HC5
  try clear c1
  try clear p2
  try clear c5
  try clear c9
  try clear c10
  try clear c10b0
  try clear c11
  try clear c14
  try clear c17
  try clear c19
  try clear hcz12_0
  try clear hcz12_1
  try clear hcz12_2
  try clear hcz12_3
  try clear hcz15_0
  try clear hcz15_1
  try clear hcz15_2
  try clear hcz15_3
  try clear hcz18_0
  try clear hcz18_1
  try clear hcz18_2
  try clear hcz18_3
  try clear hfz12_0
  try clear hfz12_1
  try clear hfz12_2
  try clear hfz12_3
  try clear hfz15_0
  try clear hfz15_1
  try clear hfz15_2
  try clear hfz15_3
  try clear hfz18_0
  try clear hfz18_1
  try clear hfz18_2
  try clear hfz18_3
  obtain ⟨kq, x23_4, rfl, HA, HJ4, BK208, BK209, HB⟩ := hcut
  cases kq with
  | zero => exact absurd HA.out (by simp [impl_BallAfter.j0])
  | succ kj4 =>
   have H := HA.out
   clear HA
   simp only [impl_BallAfter.j0] at H
   by_cases c20 : x23_4 = true
   ·subst c20
    have H1 : (some (0, 0, 0, 0, false)) = some (r1, r2, r3, r4, r5) := by rw [if_pos rfl] at H; exact H
    clear H
    have H := H1
    clear H1
    simp only [Option.some.injEq, Prod.mk.injEq] at H
    obtain ⟨rfl, rfl, rfl, rfl, rfl⟩ := H
    have hnb21 := NB209_208.out
    have hnc21 := NB208_209.out
    have hcz22_0 : wc.cell? ⟨gb209, 0, none⟩ = some (.int .i64 0) := (blk_cell BK209.out 0).trans rfl
    have hcz22_1 : wc.cell? ⟨gb209, 1, none⟩ = some (.int .i64 0) := (blk_cell BK209.out 1).trans rfl
    have hcz22_2 : wc.cell? ⟨gb209, 2, none⟩ = some (.int .i64 0) := (blk_cell BK209.out 2).trans rfl
    have hcz22_3 : wc.cell? ⟨gb209, 3, none⟩ = some (.int .i64 0) := (blk_cell BK209.out 3).trans rfl
    have hfz22_0 := blk_frozen BK209.out 0
    have hfz22_1 := blk_frozen BK209.out 1
    have hfz22_2 := blk_frozen BK209.out 2
    have hfz22_3 := blk_frozen BK209.out 3
    go_wp2
    refine bodyPost_ret (results_ct rfl _ _ gb209 24 #[.int .i64 0, .int .i64 0, .int .i64 0, .int .i64 0] (0, 0) _ rfl (by (with_reducible repeat (first | refine blk_drewN ?_ _ | refine blk_drew ?_ | refine blk_alloc ?_ _)); refine blk_put (cs := #[.int .i64 0, .int .i64 0, .int .i64 0, .int .i64 0]) ?_ 3 _ rfl; (with_reducible repeat (first | refine blk_drewN ?_ _ | refine blk_drew ?_ | refine blk_alloc ?_ _)); refine blk_put (cs := #[.int .i64 0, .int .i64 0, .int .i64 0, .int .i64 0]) ?_ 2 _ rfl; (with_reducible repeat (first | refine blk_drewN ?_ _ | refine blk_drew ?_ | refine blk_alloc ?_ _)); refine blk_put (cs := #[.int .i64 0, .int .i64 0, .int .i64 0, .int .i64 0]) ?_ 1 _ rfl; (with_reducible repeat (first | refine blk_drewN ?_ _ | refine blk_drew ?_ | refine blk_alloc ?_ _)); refine blk_put (cs := #[.int .i64 0, .int .i64 0, .int .i64 0, .int .i64 0]) ?_ 0 _ rfl; (with_reducible repeat (first | refine blk_drewN ?_ _ | refine blk_drew ?_ | refine blk_alloc ?_ _)); exact BK209.out) Tryd.underlying24 rfl (by kernel_rfl)) rfl ?_
    exact ⟨by first | rfl | (simp [errW_none, errW_some] <;> rfl) | (simp [*, errW_none, errW_some] <;> rfl), by repeat (first | (with_reducible first | exact HB.out | apply below_alloc | apply pw_below_drewN | apply below_drew1 | refine below_set ?_ GE208.out | refine below_set ?_ GE209.out) | exact HB.out)⟩
   ·replace c20 := Bool.eq_false_iff.mpr c20
    subst c20
    have H1 : (impl_BallAfter.l0 kj4 a0 a1 a3 0 a2_0 a2_1 a2_2 a2_3) = some (r1, r2, r3, r4, r5) := by rw [if_neg (show ¬ (false = true) by decide)] at H; exact H
    clear H
    have H := H1
    clear H1
    have H' := Aside0.mk H
    clear H
    go_wp2
    go_loopg [10] kj4 (fun kq v10 w' => ∃ (x10_2 : Int) (x209000_2 : Int) (x209001_2 : Int) (x209002_2 : Int) (x209003_2 : Int), v10 = .int .i64 x10_2 ∧ Aside0 (impl_BallAfter.l0 kq a0 a1 a3 x10_2 x209000_2 x209001_2 x209002_2 x209003_2 = some (r1, r2, r3, r4, r5)) ∧ Aside0 (kq ≤ kj4) ∧ Aside0 (w'.heap[gb208]? = some (.cells #[.int .i64 x209000_2, .int .i64 x209001_2, .int .i64 x209002_2, .int .i64 x209003_2] 24 (0, 0))) ∧ Aside0 (w'.heap[gb209]? = some (.cells #[.int .i64 0, .int .i64 0, .int .i64 0, .int .i64 0] 24 (0, 0))) ∧ Aside0 (Below w.heap.size w w'))
    case atStart => exact ⟨(0), (a2_0), (a2_1), (a2_2), (a2_3), (by first | rfl | (simp; done) | (simp [*]; done)), H', ⟨Nat.le_refl _⟩, ⟨by (with_reducible repeat (first | refine blk_drewN ?_ _ | refine blk_drew ?_ | refine blk_alloc ?_ _)); exact BK208.out⟩, ⟨by (with_reducible repeat (first | refine blk_drewN ?_ _ | refine blk_drew ?_ | refine blk_alloc ?_ _)); exact BK209.out⟩, ⟨by repeat (first | (with_reducible first | exact HB.out | apply below_alloc | apply pw_below_drewN | apply below_drew1 | refine below_set ?_ GE208.out | refine below_set ?_ GE209.out) | exact HB.out)⟩⟩
    case round =>
     clear H'
     try clear c1
     try clear c2
     try clear p2
     try clear c5
     try clear c9
     try clear c10
     try clear c10b0
     try clear c11
     try clear c14
     try clear c17
     try clear c19
     try clear c20
     try clear c21
     try clear hcz12_0
     try clear hcz12_1
     try clear hcz12_2
     try clear hcz12_3
     try clear hcz15_0
     try clear hcz15_1
     try clear hcz15_2
     try clear hcz15_3
     try clear hcz18_0
     try clear hcz18_1
     try clear hcz18_2
     try clear hcz18_3
     try clear hcz22_0
     try clear hcz22_1
     try clear hcz22_2
     try clear hcz22_3
     try clear hfz12_0
     try clear hfz12_1
     try clear hfz12_2
     try clear hfz12_3
     try clear hfz15_0
     try clear hfz15_1
     try clear hfz15_2
     try clear hfz15_3
     try clear hfz18_0
     try clear hfz18_1
     try clear hfz18_2
     try clear hfz18_3
     try clear hfz22_0
     try clear hfz22_1
     try clear hfz22_2
     try clear hfz22_3
     try clear p2
     obtain ⟨x10_2, x209000_2, x209001_2, x209002_2, x209003_2, rfl, HA, HK2, BK208, BK209, HB⟩ := hrel
     cases gk with
     | zero => exact absurd HA.out (by simp [impl_BallAfter.l0])
     | succ k2 =>
      have H := HA.out
      clear HA
      simp only [impl_BallAfter.l0] at H
      by_cases c23 : x10_2 < a3
      ·rw [if_pos c23] at H
       have c23b0 : decide (x10_2 < a3) = true := decide_eq_true c23
       clear c23
       replace H := Option.bind_eq_some_iff.mp H
       obtain ⟨⟨t211, t212, t213, t214, t215⟩, A240, H⟩ := H
       replace H : (impl_BallAfter.l0 k2 a0 a1 a3 (wrap64 (x10_2 + 1)) t211 t212 t213 t214) = some (r1, r2, r3, r4, r5) := H
       have A24 := Aside0.mk A240
       clear A240
       have H' := Aside0.mk H
       clear H
       have hnb25 := NB208_209.out
       have hnc25 := NB209_208.out
       have hcz26_0 : wr.cell? ⟨gb208, 0, none⟩ = some (.int .i64 x209000_2) := (blk_cell BK208.out 0).trans rfl
       have hcz26_1 : wr.cell? ⟨gb208, 1, none⟩ = some (.int .i64 x209001_2) := (blk_cell BK208.out 1).trans rfl
       have hcz26_2 : wr.cell? ⟨gb208, 2, none⟩ = some (.int .i64 x209002_2) := (blk_cell BK208.out 2).trans rfl
       have hcz26_3 : wr.cell? ⟨gb208, 3, none⟩ = some (.int .i64 x209003_2) := (blk_cell BK208.out 3).trans rfl
       have hfz26_0 := blk_frozen BK208.out 0
       have hfz26_1 := blk_frozen BK208.out 1
       have hfz26_2 := blk_frozen BK208.out 2
       have hfz26_3 := blk_frozen BK208.out 3
       go_wp2_with (first | ((with_reducible refine gate_callee (f := 60) rfl ?_); refine goesL_ (some 34) rfl rfl Tryd.func60 (by kernel_rfl) rfl #[.int .i64 a0, .int .i64 a1, .agg #[.int .i64 x209000_2, .int .i64 x209001_2, .int .i64 x209002_2, .int .i64 x209003_2]] rfl (by (try simp only [List.map_toArray, List.map_cons, List.map_nil]); first | done | rfl | (simp only [List.length_drop, List.length_take]; rfl)) ?_; (with_reducible refine (impl_BallStep.calls a0 a1 x209000_2 x209001_2 x209002_2 x209003_2 t211 t212 t213 t214 t215 _ A24.out).mono ?_); rintro e w27 ⟨rfl, hb⟩; refine ⟨_, rfl, ?_⟩; have n0_ := Aside0.mk (blk_below (g := gb208) (o := .cells #[.int .i64 x209000_2, .int .i64 x209001_2, .int .i64 x209002_2, .int .i64 x209003_2] 24 (0, 0)) (by (with_reducible repeat (first | refine blk_drewN ?_ _ | refine blk_drew ?_ | refine blk_alloc ?_ _)); exact BK208.out) hb); have n1_ := Aside0.mk (blk_below (g := gb209) (o := .cells #[.int .i64 0, .int .i64 0, .int .i64 0, .int .i64 0] 24 (0, 0)) (by (with_reducible repeat (first | refine blk_drewN ?_ _ | refine blk_drew ?_ | refine blk_alloc ?_ _)); exact BK209.out) hb); have n2_ := Aside0.mk (below_step (by repeat (first | (with_reducible first | exact HB.out | apply below_alloc | apply pw_below_drewN | apply below_drew1 | refine below_set ?_ GE208.out | refine below_set ?_ GE209.out) | exact HB.out)) hb); clear BK208; clear BK209; clear HB; have BK208 := n0_; have BK209 := n1_; have HB := n2_; clear n0_ n1_ n2_; (try clear hb); (try clear hb2); (try clear hk); (try clear hi); have hcz28_0 : w27.cell? ⟨gb208, 0, none⟩ = some (.int .i64 x209000_2) := (blk_cell BK208.out 0).trans rfl; have hcz28_1 : w27.cell? ⟨gb208, 1, none⟩ = some (.int .i64 x209001_2) := (blk_cell BK208.out 1).trans rfl; have hcz28_2 : w27.cell? ⟨gb208, 2, none⟩ = some (.int .i64 x209002_2) := (blk_cell BK208.out 2).trans rfl; have hcz28_3 : w27.cell? ⟨gb208, 3, none⟩ = some (.int .i64 x209003_2) := (blk_cell BK208.out 3).trans rfl; have hfz28_0 := blk_frozen BK208.out 0; have hfz28_1 := blk_frozen BK208.out 1; have hfz28_2 := blk_frozen BK208.out 2; have hfz28_3 := blk_frozen BK208.out 3))
       go_roundg k2
       case measure => have := HJ4.out; have := HK2.out; omega
       case rel => exact ⟨(wrap64 (x10_2 + 1)), (t211), (t212), (t213), (t214), (by first | rfl | (simp; done) | (simp [*]; done)), H', ⟨by have := HJ4.out; have := HK2.out; omega⟩, ⟨by (with_reducible repeat (first | refine blk_drewN ?_ _ | refine blk_drew ?_ | refine blk_alloc ?_ _)); refine blk_put (cs := #[.int .i64 t211, .int .i64 t212, .int .i64 t213, .int .i64 x209003_2]) ?_ 3 _ rfl; (with_reducible repeat (first | refine blk_drewN ?_ _ | refine blk_drew ?_ | refine blk_alloc ?_ _)); refine blk_put (cs := #[.int .i64 t211, .int .i64 t212, .int .i64 x209002_2, .int .i64 x209003_2]) ?_ 2 _ rfl; (with_reducible repeat (first | refine blk_drewN ?_ _ | refine blk_drew ?_ | refine blk_alloc ?_ _)); refine blk_put (cs := #[.int .i64 t211, .int .i64 x209001_2, .int .i64 x209002_2, .int .i64 x209003_2]) ?_ 1 _ rfl; (with_reducible repeat (first | refine blk_drewN ?_ _ | refine blk_drew ?_ | refine blk_alloc ?_ _)); refine blk_put (cs := #[.int .i64 x209000_2, .int .i64 x209001_2, .int .i64 x209002_2, .int .i64 x209003_2]) ?_ 0 _ rfl; (with_reducible repeat (first | refine blk_drewN ?_ _ | refine blk_drew ?_ | refine blk_alloc ?_ _)); exact BK208.out⟩, ⟨by (with_reducible repeat (first | refine blk_drewN ?_ _ | refine blk_drew ?_ | refine blk_alloc ?_ _)); refine blk_far ?_ NB209_208.out _; (with_reducible repeat (first | refine blk_drewN ?_ _ | refine blk_drew ?_ | refine blk_alloc ?_ _)); refine blk_far ?_ NB209_208.out _; (with_reducible repeat (first | refine blk_drewN ?_ _ | refine blk_drew ?_ | refine blk_alloc ?_ _)); refine blk_far ?_ NB209_208.out _; (with_reducible repeat (first | refine blk_drewN ?_ _ | refine blk_drew ?_ | refine blk_alloc ?_ _)); refine blk_far ?_ NB209_208.out _; (with_reducible repeat (first | refine blk_drewN ?_ _ | refine blk_drew ?_ | refine blk_alloc ?_ _)); exact BK209.out⟩, ⟨by repeat (first | (with_reducible first | exact HB.out | apply below_alloc | apply pw_below_drewN | apply below_drew1 | refine below_set ?_ GE208.out | refine below_set ?_ GE209.out) | exact HB.out)⟩⟩
      ·rw [if_neg c23] at H
       have c23b0 : decide (x10_2 < a3) = false := decide_eq_false c23
       clear c23
       simp only [Option.some.injEq, Prod.mk.injEq] at H
       obtain ⟨rfl, rfl, rfl, rfl, rfl⟩ := H
       have hnb29 := NB208_209.out
       have hnc29 := NB209_208.out
       have hcz30_0 : wr.cell? ⟨gb208, 0, none⟩ = some (.int .i64 x209000_2) := (blk_cell BK208.out 0).trans rfl
       have hcz30_1 : wr.cell? ⟨gb208, 1, none⟩ = some (.int .i64 x209001_2) := (blk_cell BK208.out 1).trans rfl
       have hcz30_2 : wr.cell? ⟨gb208, 2, none⟩ = some (.int .i64 x209002_2) := (blk_cell BK208.out 2).trans rfl
       have hcz30_3 : wr.cell? ⟨gb208, 3, none⟩ = some (.int .i64 x209003_2) := (blk_cell BK208.out 3).trans rfl
       have hfz30_0 := blk_frozen BK208.out 0
       have hfz30_1 := blk_frozen BK208.out 1
       have hfz30_2 := blk_frozen BK208.out 2
       have hfz30_3 := blk_frozen BK208.out 3
       have hcz31_0 : wr.cell? ⟨gb209, 0, none⟩ = some (.int .i64 0) := (blk_cell BK209.out 0).trans rfl
       have hcz31_1 : wr.cell? ⟨gb209, 1, none⟩ = some (.int .i64 0) := (blk_cell BK209.out 1).trans rfl
       have hcz31_2 : wr.cell? ⟨gb209, 2, none⟩ = some (.int .i64 0) := (blk_cell BK209.out 2).trans rfl
       have hcz31_3 : wr.cell? ⟨gb209, 3, none⟩ = some (.int .i64 0) := (blk_cell BK209.out 3).trans rfl
       have hfz31_0 := blk_frozen BK209.out 0
       have hfz31_1 := blk_frozen BK209.out 1
       have hfz31_2 := blk_frozen BK209.out 2
       have hfz31_3 := blk_frozen BK209.out 3
       go_wp2
       refine bodyPost_ret (results_ct rfl _ _ gb209 24 #[.int .i64 x209000_2, .int .i64 x209001_2, .int .i64 x209002_2, .int .i64 x209003_2] (0, 0) _ rfl (by (with_reducible repeat (first | refine blk_drewN ?_ _ | refine blk_drew ?_ | refine blk_alloc ?_ _)); refine blk_put (cs := #[.int .i64 x209000_2, .int .i64 x209001_2, .int .i64 x209002_2, .int .i64 0]) ?_ 3 _ rfl; (with_reducible repeat (first | refine blk_drewN ?_ _ | refine blk_drew ?_ | refine blk_alloc ?_ _)); refine blk_put (cs := #[.int .i64 x209000_2, .int .i64 x209001_2, .int .i64 0, .int .i64 0]) ?_ 2 _ rfl; (with_reducible repeat (first | refine blk_drewN ?_ _ | refine blk_drew ?_ | refine blk_alloc ?_ _)); refine blk_put (cs := #[.int .i64 x209000_2, .int .i64 0, .int .i64 0, .int .i64 0]) ?_ 1 _ rfl; (with_reducible repeat (first | refine blk_drewN ?_ _ | refine blk_drew ?_ | refine blk_alloc ?_ _)); refine blk_put (cs := #[.int .i64 0, .int .i64 0, .int .i64 0, .int .i64 0]) ?_ 0 _ rfl; (with_reducible repeat (first | refine blk_drewN ?_ _ | refine blk_drew ?_ | refine blk_alloc ?_ _)); exact BK209.out) Tryd.underlying24 rfl (by kernel_rfl)) rfl ?_
       exact ⟨by first | rfl | (simp [errW_none, errW_some] <;> rfl) | (simp [*, errW_none, errW_some] <;> rfl), by repeat (first | (with_reducible first | exact HB.out | apply below_alloc | apply pw_below_drewN | apply below_drew1 | refine below_set ?_ GE208.out | refine below_set ?_ GE209.out) | exact HB.out)⟩

end Go.Proofs.YtnoopmbhdlfkbaaDoor.S
