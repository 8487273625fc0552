-- PRINTED by print.py (a twelfth state) out of the translation. Not trusted: Lean checks it.
import Derived.Test.YthhdgeafdnikcaaGreatDoorS0
import Derived.Test.YthhdgeafdnikcaaGreatDoorS2
import Derived.Test.YthhdgeafdnikcaaGreatDoorS3
import Derived.Test.YthhdgeafdnikcaaGreatDoorS4
import Derived.Test.YthhdgeafdnikcaaGreatDoorS5
import Derived.Test.YthhdgeafdnikcaaGreatDoorS6
import Derived.Test.YthhdgeafdnikcaaGreatDoorS7
namespace Go.Proofs.YthhdgeafdnikcaaGreatDoor.S
open Go.RowKit Go.Proofs.YthhdgeafdnikcaaGreatDoorW.PrintWords Go.Proofs.YthhdgeafdnikcaaGreatDoorW.PrintLast Go.Proofs.YthhdgeafdnikcaaGreatDoorW.PrintMore
attribute [local go_sem] max2_int min2_int max_two min_two max_three min_three max_four min_four   -- for this text's walks alone
set_option linter.unusedVariables false
set_option linter.unusedSimpArgs false

/-! ### laws_FnReports: function 3 -/
mutual
def laws_FnReports.j0 : Nat → List (S38) → Bool → Option (Bool)
 | 0, _, _ => none
 | k + 1, x5, x63 => if x63 = true then (some false) else (laws_FnReports.l0 k x5 (⟨#[]⟩ : ByteArray) x5 (x5.length : Int) 0)
def laws_FnReports.l0 : Nat → List (S38) → ByteArray → List (S38) → Int → Int → Option (Bool)
 | 0, _, _, _, _, _ => none
 | k + 1, x5, x7, x64, x65, x66 => if x66 < x65 then (if 0 ≤ x66 then (if x66 < (x64.length : Int) then (if x66 > 0 then (if x7.size + 1 ≤ 9223372036854775807 then ((impl_FormatInt.f ((rd_T38 x64 x66).f0)).bind fun t580 => (if (x7 ++ (⟨#[32]⟩ : ByteArray)).size + t580.size ≤ 9223372036854775807 then (if ((x7 ++ (⟨#[32]⟩ : ByteArray)) ++ t580).size + 1 ≤ 9223372036854775807 then ((impl_FormatInt.f ((rd_T38 x64 x66).f1)).bind fun t581 => (if (((x7 ++ (⟨#[32]⟩ : ByteArray)) ++ t580) ++ (⟨#[120]⟩ : ByteArray)).size + t581.size ≤ 9223372036854775807 then (laws_FnReports.l0 k x5 ((((x7 ++ (⟨#[32]⟩ : ByteArray)) ++ t580) ++ (⟨#[120]⟩ : ByteArray)) ++ t581) x64 x65 (wrap64 (x66 + 1))) else (none))) else (none)) else (none))) else (none)) else ((impl_FormatInt.f ((rd_T38 x64 x66).f0)).bind fun t582 => (if x7.size + t582.size ≤ 9223372036854775807 then (if (x7 ++ t582).size + 1 ≤ 9223372036854775807 then ((impl_FormatInt.f ((rd_T38 x64 x66).f1)).bind fun t583 => (if ((x7 ++ t582) ++ (⟨#[120]⟩ : ByteArray)).size + t583.size ≤ 9223372036854775807 then (laws_FnReports.l0 k x5 (((x7 ++ t582) ++ (⟨#[120]⟩ : ByteArray)) ++ t583) x64 x65 (wrap64 (x66 + 1))) else (none))) else (none)) else (none)))) else (none)) else (none)) else ((impl_CylinderLine.f k x5).bind fun t576 => (if t576.toList = x7.toList then ((impl_CylinderLine.f k ([] : List (S38))).bind fun t577 => (some (t577.toList == ([45] : List UInt8)))) else (some false)))
end
def laws_FnReports.f (k : Nat) (l0 : List Int) : Option (Bool) := if (l0.length : Int) > 1048576 then (some true) else ((spec_MakeSurface.f k l0).bind fun bt551 => ((impl_SurfaceLines.f k bt551.1 bt551.2).bind fun t558 => ((impl_CylindersOf.f k bt551.1 bt551.2).bind fun bt561 => (if bt561.2 = true then (if (t558.length : Int) = 4 then (if 0 < (t558.length : Int) then ((impl_FormatInt.f (bt551.1.length : Int)).bind fun t566 => (if 8 + t566.size ≤ 9223372036854775807 then (if ((⟨#[115, 113, 117, 97, 114, 101, 115, 32]⟩ : ByteArray) ++ t566).size + 1 ≤ 9223372036854775807 then ((impl_FormatSurface.f k bt551.1 bt551.2).bind fun t567 => (if (((⟨#[115, 113, 117, 97, 114, 101, 115, 32]⟩ : ByteArray) ++ t566) ++ (⟨#[32]⟩ : ByteArray)).size + t567.size ≤ 9223372036854775807 then (if (rdOf ByteArray.empty t558 0).toList = ((((⟨#[115, 113, 117, 97, 114, 101, 115, 32]⟩ : ByteArray) ++ t566) ++ (⟨#[32]⟩ : ByteArray)) ++ t567).toList then (if 1 < (t558.length : Int) then ((impl_AnglesOf.f k bt551.1 bt551.2).bind fun t569 => ((impl_FormatList.f k t569).bind fun t572 => (if 7 + t572.size ≤ 9223372036854775807 then (if (rdOf ByteArray.empty t558 1).toList = ((⟨#[97, 110, 103, 108, 101, 115, 32]⟩ : ByteArray) ++ t572).toList then (if 3 < (t558.length : Int) then ((impl_CountSymmetries.f k bt551.1 bt551.2).bind fun t574 => ((impl_FormatInt.f t574).bind fun t575 => (if 11 + t575.size ≤ 9223372036854775807 then (laws_FnReports.j0 k bt561.1 ((rdOf ByteArray.empty t558 3).toList != ((⟨#[115, 121, 109, 109, 101, 116, 114, 105, 101, 115, 32]⟩ : ByteArray) ++ t575).toList)) else (none)))) else (none)) else (laws_FnReports.j0 k bt561.1 true)) else (none)))) else (none)) else (laws_FnReports.j0 k bt561.1 true)) else (none))) else (none)) else (none))) else (none)) else (laws_FnReports.j0 k bt561.1 true)) else (laws_FnReports.j0 k bt561.1 true)))))
def laws_FnReports.T6 : Bool × List (List Nat × List Nat) := (true, [([], []), ([0], [0]), ([1], [1]), ([2], [2]), ([3, 2], [2, 3]), ([4, 2], [2, 4]), ([2, 5], [2, 5]), ([6, 2], [6]), ([7], [7]), ([8, 7], [7, 8]), ([9, 7], [7, 9]), ([7], [7]), ([11, 7], [7, 11]), ([12, 7], [7, 12]), ([13, 7, 7], [7, 13]), ([14, 7], [7, 14]), ([15, 7], [7, 15]), ([7], [7]), ([17, 14, 7], [7, 17]), ([16, 18, 7], [7, 16, 18]), ([10, 19, 7], [7, 10, 19]), ([7, 20], [7, 20]), ([21, 18], [21]), ([22], [22]), ([23, 22], [22, 23]), ([24, 22], [22, 24]), ([22], [22]), ([26, 22, 22], [22, 26]), ([27, 27, 22], [22, 27]), ([28, 22], [22, 28]), ([25, 29, 22], [22, 25, 29]), ([22, 30], [22, 30]), ([31, 28], [31]), ([32], [32]), ([33, 32], [32, 33]), ([34, 32], [32, 34]), ([32], [32]), ([36, 32, 32], [32, 36]), ([37, 37, 32], [32, 37]), ([38, 32], [32, 38]), ([35, 39, 32], [32, 35, 39]), ([32, 40], [32, 40])])
def laws_FnReports.B6 : List Nat := [0, 1, 3, 7, 15, 31, 63, 127, 255, 511, 1023, 255, 2303, 6399, 14591, 30975, 63743, 255, 162047, 522495, 1048575, 2097151, 4194303, 8388607, 16777215, 33554431, 8388607, 75497471, 209715199, 478150655, 1073741823, 2147483647, 4294967295, 8589934591, 17179869183, 34359738367, 8589934591, 77309411327, 214748364799, 489626271743, 1099511627775, 2199023255551]
theorem laws_FnReports.tab6 : rtab .any (opsOf Tryz.f3 6) = laws_FnReports.T6 := by kernel_rfl
theorem laws_FnReports.bits6 : waitsOk laws_FnReports.T6.2 laws_FnReports.B6 = true := by kernel_rfl
def laws_FnReports.T14 : Bool × List (List Nat × List Nat) := (true, [([], []), ([], []), ([1], [1]), ([2], [2]), ([0, 3], [0, 3]), ([4], [4]), ([], []), ([6], [6]), ([7, 3], [7]), ([5, 8], [5, 8]), ([9, 8, 0, 1, 2, 3, 4, 5, 6, 7, 8, 9], [0, 9])])
def laws_FnReports.B14 : List Nat := [0, 0, 2, 6, 15, 31, 0, 64, 206, 511, 1023]
theorem laws_FnReports.tab14 : rtab .any (opsOf Tryz.f3 14) = laws_FnReports.T14 := by kernel_rfl
theorem laws_FnReports.bits14 : waitsOk laws_FnReports.T14.2 laws_FnReports.B14 = true := by kernel_rfl
set_option maxHeartbeats 8000000 in
set_option maxRecDepth 100000 in
theorem laws_FnReports.calls (k : Nat) (A0 : Option Addr) (c0 : Nat) (l0 : List Int) (r : Bool) (w : World) (hr0 : Kd.C (Kd.int .u8) w A0 l0.length l0) (hc0 : l0.length ≤ c0) (htab_ : PowTab w) (hrt_ : r = true) (h : laws_FnReports.f k l0 = some r) :
  Calls Tryz.prog 3 #[.slice A0 l0.length c0] w fun e w' => e = .returned (.bool r) ∧ Below w.heap.size w w' := by
 have hu25 := Tryz.underlying25
 have hu38 := Tryz.underlying38
 have HR0 := Aside0.mk hr0
 have HC0 := Aside0.mk hc0
 clear hr0 hc0
 have HB := Aside0.mk (Below.refl w.heap.size w)
 have H : (if (l0.length : Int) > 1048576 then (some true) else ((spec_MakeSurface.f k l0).bind fun bt551 => ((impl_SurfaceLines.f k bt551.1 bt551.2).bind fun t558 => ((impl_CylindersOf.f k bt551.1 bt551.2).bind fun bt561 => (if bt561.2 = true then (if (t558.length : Int) = 4 then (if 0 < (t558.length : Int) then ((impl_FormatInt.f (bt551.1.length : Int)).bind fun t566 => (if 8 + t566.size ≤ 9223372036854775807 then (if ((⟨#[115, 113, 117, 97, 114, 101, 115, 32]⟩ : ByteArray) ++ t566).size + 1 ≤ 9223372036854775807 then ((impl_FormatSurface.f k bt551.1 bt551.2).bind fun t567 => (if (((⟨#[115, 113, 117, 97, 114, 101, 115, 32]⟩ : ByteArray) ++ t566) ++ (⟨#[32]⟩ : ByteArray)).size + t567.size ≤ 9223372036854775807 then (if (rdOf ByteArray.empty t558 0).toList = ((((⟨#[115, 113, 117, 97, 114, 101, 115, 32]⟩ : ByteArray) ++ t566) ++ (⟨#[32]⟩ : ByteArray)) ++ t567).toList then (if 1 < (t558.length : Int) then ((impl_AnglesOf.f k bt551.1 bt551.2).bind fun t569 => ((impl_FormatList.f k t569).bind fun t572 => (if 7 + t572.size ≤ 9223372036854775807 then (if (rdOf ByteArray.empty t558 1).toList = ((⟨#[97, 110, 103, 108, 101, 115, 32]⟩ : ByteArray) ++ t572).toList then (if 3 < (t558.length : Int) then ((impl_CountSymmetries.f k bt551.1 bt551.2).bind fun t574 => ((impl_FormatInt.f t574).bind fun t575 => (if 11 + t575.size ≤ 9223372036854775807 then (laws_FnReports.j0 k bt561.1 ((rdOf ByteArray.empty t558 3).toList != ((⟨#[115, 121, 109, 109, 101, 116, 114, 105, 101, 115, 32]⟩ : ByteArray) ++ t575).toList)) else (none)))) else (none)) else (laws_FnReports.j0 k bt561.1 true)) else (none)))) else (none)) else (laws_FnReports.j0 k bt561.1 true)) else (none))) else (none)) else (none))) else (none)) else (laws_FnReports.j0 k bt561.1 true)) else (laws_FnReports.j0 k bt561.1 true)))))) = some r := h
 clear h
 have HTAB := Aside0.mk htab_
 clear htab_
 have HRT := Aside0.mk hrt_
 clear hrt_
 by_cases c2 : (l0.length : Int) > 1048576
 {
 rw [if_pos c2] at H
 have c2b0 : decide (1048576 < (l0.length : Int)) = true := decide_eq_true c2
 have c2b1 : decide (1048576 < l0.length) = true := decide_eq_true (by omega)
 clear c2
 obtain rfl := Option.some.inj H
 go_enter Tryz.func3, Tryz.ntmps3
 go_wp2
 go_ret
 exact ⟨eX, bX HB.out⟩
 }
 {
 rw [if_neg c2] at H
 have c2b0 : decide (1048576 < (l0.length : Int)) = false := decide_eq_false c2
 have c2b1 : decide (1048576 < l0.length) = false := decide_eq_false (by omega)
 clear c2
 replace H := Option.bind_eq_some_iff.mp H
 obtain ⟨⟨t551, t554⟩, A30, H⟩ := H
 replace H : ((impl_SurfaceLines.f k t551 t554).bind fun t558 => ((impl_CylindersOf.f k t551 t554).bind fun bt561 => (if bt561.2 = true then (if (t558.length : Int) = 4 then (if 0 < (t558.length : Int) then ((impl_FormatInt.f (t551.length : Int)).bind fun t566 => (if 8 + t566.size ≤ 9223372036854775807 then (if ((⟨#[115, 113, 117, 97, 114, 101, 115, 32]⟩ : ByteArray) ++ t566).size + 1 ≤ 9223372036854775807 then ((impl_FormatSurface.f k t551 t554).bind fun t567 => (if (((⟨#[115, 113, 117, 97, 114, 101, 115, 32]⟩ : ByteArray) ++ t566) ++ (⟨#[32]⟩ : ByteArray)).size + t567.size ≤ 9223372036854775807 then (if (rdOf ByteArray.empty t558 0).toList = ((((⟨#[115, 113, 117, 97, 114, 101, 115, 32]⟩ : ByteArray) ++ t566) ++ (⟨#[32]⟩ : ByteArray)) ++ t567).toList then (if 1 < (t558.length : Int) then ((impl_AnglesOf.f k t551 t554).bind fun t569 => ((impl_FormatList.f k t569).bind fun t572 => (if 7 + t572.size ≤ 9223372036854775807 then (if (rdOf ByteArray.empty t558 1).toList = ((⟨#[97, 110, 103, 108, 101, 115, 32]⟩ : ByteArray) ++ t572).toList then (if 3 < (t558.length : Int) then ((impl_CountSymmetries.f k t551 t554).bind fun t574 => ((impl_FormatInt.f t574).bind fun t575 => (if 11 + t575.size ≤ 9223372036854775807 then (laws_FnReports.j0 k bt561.1 ((rdOf ByteArray.empty t558 3).toList != ((⟨#[115, 121, 109, 109, 101, 116, 114, 105, 101, 115, 32]⟩ : ByteArray) ++ t575).toList)) else (none)))) else (none)) else (laws_FnReports.j0 k bt561.1 true)) else (none)))) else (none)) else (laws_FnReports.j0 k bt561.1 true)) else (none))) else (none)) else (none))) else (none)) else (laws_FnReports.j0 k bt561.1 true)) else (laws_FnReports.j0 k bt561.1 true)))) = some r := H
 have A3 := Aside0.mk A30
 clear A30
 replace H := Option.bind_eq_some_iff.mp H
 obtain ⟨t558, A40, H⟩ := H
 replace H : ((impl_CylindersOf.f k t551 t554).bind fun bt561 => (if bt561.2 = true then (if (t558.length : Int) = 4 then (if 0 < (t558.length : Int) then ((impl_FormatInt.f (t551.length : Int)).bind fun t566 => (if 8 + t566.size ≤ 9223372036854775807 then (if ((⟨#[115, 113, 117, 97, 114, 101, 115, 32]⟩ : ByteArray) ++ t566).size + 1 ≤ 9223372036854775807 then ((impl_FormatSurface.f k t551 t554).bind fun t567 => (if (((⟨#[115, 113, 117, 97, 114, 101, 115, 32]⟩ : ByteArray) ++ t566) ++ (⟨#[32]⟩ : ByteArray)).size + t567.size ≤ 9223372036854775807 then (if (rdOf ByteArray.empty t558 0).toList = ((((⟨#[115, 113, 117, 97, 114, 101, 115, 32]⟩ : ByteArray) ++ t566) ++ (⟨#[32]⟩ : ByteArray)) ++ t567).toList then (if 1 < (t558.length : Int) then ((impl_AnglesOf.f k t551 t554).bind fun t569 => ((impl_FormatList.f k t569).bind fun t572 => (if 7 + t572.size ≤ 9223372036854775807 then (if (rdOf ByteArray.empty t558 1).toList = ((⟨#[97, 110, 103, 108, 101, 115, 32]⟩ : ByteArray) ++ t572).toList then (if 3 < (t558.length : Int) then ((impl_CountSymmetries.f k t551 t554).bind fun t574 => ((impl_FormatInt.f t574).bind fun t575 => (if 11 + t575.size ≤ 9223372036854775807 then (laws_FnReports.j0 k bt561.1 ((rdOf ByteArray.empty t558 3).toList != ((⟨#[115, 121, 109, 109, 101, 116, 114, 105, 101, 115, 32]⟩ : ByteArray) ++ t575).toList)) else (none)))) else (none)) else (laws_FnReports.j0 k bt561.1 true)) else (none)))) else (none)) else (laws_FnReports.j0 k bt561.1 true)) else (none))) else (none)) else (none))) else (none)) else (laws_FnReports.j0 k bt561.1 true)) else (laws_FnReports.j0 k bt561.1 true))) = some r := H
 have A4 := Aside0.mk A40
 clear A40
 replace H := Option.bind_eq_some_iff.mp H
 obtain ⟨⟨t561, t564⟩, A50, H⟩ := H
 replace H : (if t564 = true then (if (t558.length : Int) = 4 then (if 0 < (t558.length : Int) then ((impl_FormatInt.f (t551.length : Int)).bind fun t566 => (if 8 + t566.size ≤ 9223372036854775807 then (if ((⟨#[115, 113, 117, 97, 114, 101, 115, 32]⟩ : ByteArray) ++ t566).size + 1 ≤ 9223372036854775807 then ((impl_FormatSurface.f k t551 t554).bind fun t567 => (if (((⟨#[115, 113, 117, 97, 114, 101, 115, 32]⟩ : ByteArray) ++ t566) ++ (⟨#[32]⟩ : ByteArray)).size + t567.size ≤ 9223372036854775807 then (if (rdOf ByteArray.empty t558 0).toList = ((((⟨#[115, 113, 117, 97, 114, 101, 115, 32]⟩ : ByteArray) ++ t566) ++ (⟨#[32]⟩ : ByteArray)) ++ t567).toList then (if 1 < (t558.length : Int) then ((impl_AnglesOf.f k t551 t554).bind fun t569 => ((impl_FormatList.f k t569).bind fun t572 => (if 7 + t572.size ≤ 9223372036854775807 then (if (rdOf ByteArray.empty t558 1).toList = ((⟨#[97, 110, 103, 108, 101, 115, 32]⟩ : ByteArray) ++ t572).toList then (if 3 < (t558.length : Int) then ((impl_CountSymmetries.f k t551 t554).bind fun t574 => ((impl_FormatInt.f t574).bind fun t575 => (if 11 + t575.size ≤ 9223372036854775807 then (laws_FnReports.j0 k t561 ((rdOf ByteArray.empty t558 3).toList != ((⟨#[115, 121, 109, 109, 101, 116, 114, 105, 101, 115, 32]⟩ : ByteArray) ++ t575).toList)) else (none)))) else (none)) else (laws_FnReports.j0 k t561 true)) else (none)))) else (none)) else (laws_FnReports.j0 k t561 true)) else (none))) else (none)) else (none))) else (none)) else (laws_FnReports.j0 k t561 true)) else (laws_FnReports.j0 k t561 true)) = some r := H
 have A5 := Aside0.mk A50
 clear A50
 have HC6 := Aside0.mk H
 clear H
 go_enter Tryz.func3, Tryz.ntmps3
 go_upto_region 6 with (first | ((with_reducible refine gate_callee (f := 6) rfl ?_); refine goesL_ (some 14) rfl rfl Tryz.func6 (by kernel_rfl) rfl #[.slice A0 l0.length c0] rfl aX ?_; (with_reducible refine (spec_MakeSurface.calls k _ _ l0 t551 t554 _ ?side1 ?side2 A3.out).mono ?_); (case side1 => exact cX HR0.out); (case side2 => exact HC0.out); rintro e w7 ⟨v552, v555, rfl, ho0, ho1, hb⟩; refine ⟨_, rfl, ?_⟩; have n0_ := Aside0.mk (Kd.R_lower ho0 (below_size (bX HB.out))); have n1_ := Aside0.mk (Kd.R_lower ho1 (below_size (bX HB.out))); have n2_ := Aside0.mk (below_step (bX HB.out) hb); clear HB; have HO553 := n0_; have HO556 := n1_; have HB := n2_; clear n0_ n1_ n2_; (try clear hb); (try clear hb2); (try clear hk); (try clear hi); (try clear ho0); (try clear ho1)) | ((with_reducible refine gate_dst (N := 3) rfl ?_); (try (refine gate_guard (by rfl) ?_; dsimp only)); refine box_event ?hg (N := 3) ?hd (cs := #[.slice none 0 0, .slice none 0 0]) (t := 25) ?hr ?_; (case hd => rfl); (case hg => rfl); (case hr => first | (go_simp; done) | (go_simp; rfl)); intro gb557 hg w8 hbox hb; have n0_ := Aside0.mk (Kd.R_below (rX HO553.out) hb); have n1_ := Aside0.mk (Kd.R_below (rX HO556.out) hb); have n2_ := Aside0.mk (below_step (bX HB.out) hb); have n3_ := Aside0.mk (hbox); have n4_ := Aside0.mk ((szX (below_size (bX HB.out)) hg : w.heap.size ≤ gb557)); have n5_ := Aside0.mk ((szX (below_size (bX HB.out)) hg : w.heap.size ≤ gb557)); clear HO553 HO556 HB; have HO553 := n0_; have HO556 := n1_; have HB := n2_; have BK557 := n3_; have GW557 := n4_; have GE557 := n5_; clear n0_ n1_ n2_ n3_ n4_ n5_ hb hbox hg; obtain ⟨Ao9, co9, eo9⟩ := Kd.R_slice HO553.out; subst eo9; have hcz10_0 := cz20 BK557.out; have hcz10_1 := cz21 BK557.out; have hfz10_0 := blk_frozen BK557.out 0; have hfz10_1 := blk_frozen BK557.out 1; obtain ⟨Ao11, co11, eo11⟩ := Kd.R_slice HO556.out; subst eo11) | ((with_reducible refine gate_callee (f := 7) rfl ?_); refine goesL_ (some 16) rfl rfl Tryz.func7 (by kernel_rfl) rfl #[.agg #[.slice Ao9 t551.length co9, .slice Ao11 t554.length co11]] rfl aX ?_; (with_reducible refine (impl_SurfaceLines.calls k _ _ t551 _ _ t554 t558 _ ?side1 ?side2 ?side3 ?side4 ?side5 A4.out).mono ?_); (case side1 => exact rcX (fr2 HO553.out BK557.out (.slice Ao9 t551.length co9) (.slice Ao11 t554.length co11))); (case side2 => exact (Kd.R_reads' HO553.out).2.1); (case side3 => exact rcX (fr2 HO556.out BK557.out (.slice Ao9 t551.length co9) (.slice Ao11 t554.length co11))); (case side4 => exact (Kd.R_reads' HO556.out).2.1); (case side5 => exact PowTab.below HTAB.out (bX1 HB.out GE557.out)); rintro e w12 ⟨v559, rfl, ho0, hb⟩; refine ⟨_, rfl, ?_⟩; have n0_ := Aside0.mk (Kd.R_below (rX (fr2 HO553.out BK557.out (.slice Ao9 t551.length co9) (.slice Ao11 t554.length co11))) hb); have n1_ := Aside0.mk (Kd.R_below (rX (fr2 HO556.out BK557.out (.slice Ao9 t551.length co9) (.slice Ao11 t554.length co11))) hb); have n2_ := Aside0.mk (Kd.R_lower ho0 (below_size (bX1 HB.out GE557.out))); have n3_ := Aside0.mk (blk_below (g := gb557) (o := .cells #[.slice Ao9 t551.length co9, .slice Ao11 t554.length co11] 25 (0, 0)) (by (with_reducible repeat (first|refine kN ?_ _|refine kD ?_|refine kA ?_ _)); refine blk_put (cs := #[.slice Ao9 t551.length co9, .slice none 0 0]) ?_ 1 _ rfl; (with_reducible repeat (first|refine kN ?_ _|refine kD ?_|refine kA ?_ _)); refine blk_put (cs := #[.slice none 0 0, .slice none 0 0]) ?_ 0 _ rfl; (with_reducible repeat (first|refine kN ?_ _|refine kD ?_|refine kA ?_ _)); exact BK557.out) hb); have n4_ := Aside0.mk (below_step (bX1 HB.out GE557.out) hb); clear HO553 HO556 BK557 HB; have HO553 := n0_; have HO556 := n1_; have HO560 := n2_; have BK557 := n3_; have HB := n4_; clear n0_ n1_ n2_ n3_ n4_; (try clear hb); (try clear hb2); (try clear hk); (try clear hi); (try clear ho0); have hcz13_0 := cz20 BK557.out; have hcz13_1 := cz21 BK557.out; have hfz13_0 := blk_frozen BK557.out 0; have hfz13_1 := blk_frozen BK557.out 1) | ((with_reducible refine gate_callee (f := 8) rfl ?_); refine goesL_ (some 19) rfl rfl Tryz.func8 (by kernel_rfl) rfl #[.agg #[.slice Ao9 t551.length co9, .slice Ao11 t554.length co11]] rfl aX ?_; (with_reducible refine (impl_CylindersOf.calls k _ _ t551 _ _ t554 t561 t564 _ ?side1 ?side2 ?side3 ?side4 A5.out).mono ?_); (case side1 => exact cX (Kd.R_reads' HO553.out).2.2); (case side2 => exact (Kd.R_reads' HO553.out).2.1); (case side3 => exact cX (Kd.R_reads' HO556.out).2.2); (case side4 => exact (Kd.R_reads' HO556.out).2.1); rintro e w14 ⟨v562, rfl, ho0, hb⟩; refine ⟨_, rfl, ?_⟩; have n0_ := Aside0.mk (Kd.R_below (rX HO553.out) hb); have n1_ := Aside0.mk (Kd.R_below (rX HO556.out) hb); have n2_ := Aside0.mk (Kd.R_below (rX HO560.out) hb); have n3_ := Aside0.mk (Kd.R_lower ho0 (below_size (bX1 HB.out GE557.out))); have n4_ := Aside0.mk (bbX BK557.out hb); have n5_ := Aside0.mk (below_step (bX1 HB.out GE557.out) hb); clear HO553 HO556 HO560 BK557 HB; have HO553 := n0_; have HO556 := n1_; have HO560 := n2_; have HO563 := n3_; have BK557 := n4_; have HB := n5_; clear n0_ n1_ n2_ n3_ n4_ n5_; (try clear hb); (try clear hb2); (try clear hk); (try clear hi); (try clear ho0)))
 (try simp only [Act.put, List.setIfInBounds_toArray, List.set_cons_zero, List.set_cons_succ])
 go_cut [63] (fun v63 wc => ∃ (kq : Nat) (x63_5 : Bool), v63 = .bool x63_5 ∧ Aside0 (laws_FnReports.j0 kq t561 x63_5 = some r) ∧ Aside0 (kq ≤ k) ∧ Aside0 (Kd.R k38 38 wc w.heap.size (fun _ => True) v562 t561) ∧ Aside0 (Kd.R (Kd.int .i64) 3 wc w.heap.size (fun k_ => some k_ ≠ ((.slice Ao11 t554.length co11) : Value).ownBlock) (.slice Ao9 t551.length co9) t551) ∧ Aside0 (Kd.R (Kd.int .i64) 3 wc w.heap.size (fun k_ => some k_ ≠ ((.slice Ao9 t551.length co9) : Value).ownBlock) (.slice Ao11 t554.length co11) t554) ∧ Aside0 (wc.heap[gb557]? = some (.cells #[(.slice Ao9 t551.length co9), (.slice Ao11 t554.length co11)] 25 (0, 0))) ∧ Aside0 (Below w.heap.size w wc))
 case first =>
  have H := HC6.out
  clear HC6
  by_cases c15 : t564 = true
  {
  subst c15
  have H1 : (if (t558.length : Int) = 4 then (if 0 < (t558.length : Int) then ((impl_FormatInt.f (t551.length : Int)).bind fun t566 => (if 8 + t566.size ≤ 9223372036854775807 then (if ((⟨#[115, 113, 117, 97, 114, 101, 115, 32]⟩ : ByteArray) ++ t566).size + 1 ≤ 9223372036854775807 then ((impl_FormatSurface.f k t551 t554).bind fun t567 => (if (((⟨#[115, 113, 117, 97, 114, 101, 115, 32]⟩ : ByteArray) ++ t566) ++ (⟨#[32]⟩ : ByteArray)).size + t567.size ≤ 9223372036854775807 then (if (rdOf ByteArray.empty t558 0).toList = ((((⟨#[115, 113, 117, 97, 114, 101, 115, 32]⟩ : ByteArray) ++ t566) ++ (⟨#[32]⟩ : ByteArray)) ++ t567).toList then (if 1 < (t558.length : Int) then ((impl_AnglesOf.f k t551 t554).bind fun t569 => ((impl_FormatList.f k t569).bind fun t572 => (if 7 + t572.size ≤ 9223372036854775807 then (if (rdOf ByteArray.empty t558 1).toList = ((⟨#[97, 110, 103, 108, 101, 115, 32]⟩ : ByteArray) ++ t572).toList then (if 3 < (t558.length : Int) then ((impl_CountSymmetries.f k t551 t554).bind fun t574 => ((impl_FormatInt.f t574).bind fun t575 => (if 11 + t575.size ≤ 9223372036854775807 then (laws_FnReports.j0 k t561 ((rdOf ByteArray.empty t558 3).toList != ((⟨#[115, 121, 109, 109, 101, 116, 114, 105, 101, 115, 32]⟩ : ByteArray) ++ t575).toList)) else (none)))) else (none)) else (laws_FnReports.j0 k t561 true)) else (none)))) else (none)) else (laws_FnReports.j0 k t561 true)) else (none))) else (none)) else (none))) else (none)) else (laws_FnReports.j0 k t561 true)) = some r := by rw [if_pos rfl] at H; exact H
  clear H
  have H := H1
  clear H1
  by_cases c16 : (t558.length : Int) = 4
  {
  rw [if_pos c16] at H
  have c16b0 : ((t558.length : Int) == 4) = true := beq_iff_eq.mpr c16
  have c16b1 : ((t558.length : Int) != 4) = false := bne_eq_false_iff_eq.mpr c16
  clear c16
  (first | rw [c16b0] | (simp only [i64_w, i32_w]; rw [c16b0]) | skip)
  by_cases c17 : 0 < (t558.length : Int)
  {
  rw [if_pos c17] at H
  have c17b0 : decide (0 < (t558.length : Int)) = true := decide_eq_true c17
  have c17b1 : decide (0 < t558.length) = true := decide_eq_true (by omega)
  clear c17
  replace H := Option.bind_eq_some_iff.mp H
  obtain ⟨t566, A180, H⟩ := H
  replace H : (if 8 + t566.size ≤ 9223372036854775807 then (if ((⟨#[115, 113, 117, 97, 114, 101, 115, 32]⟩ : ByteArray) ++ t566).size + 1 ≤ 9223372036854775807 then ((impl_FormatSurface.f k t551 t554).bind fun t567 => (if (((⟨#[115, 113, 117, 97, 114, 101, 115, 32]⟩ : ByteArray) ++ t566) ++ (⟨#[32]⟩ : ByteArray)).size + t567.size ≤ 9223372036854775807 then (if (rdOf ByteArray.empty t558 0).toList = ((((⟨#[115, 113, 117, 97, 114, 101, 115, 32]⟩ : ByteArray) ++ t566) ++ (⟨#[32]⟩ : ByteArray)) ++ t567).toList then (if 1 < (t558.length : Int) then ((impl_AnglesOf.f k t551 t554).bind fun t569 => ((impl_FormatList.f k t569).bind fun t572 => (if 7 + t572.size ≤ 9223372036854775807 then (if (rdOf ByteArray.empty t558 1).toList = ((⟨#[97, 110, 103, 108, 101, 115, 32]⟩ : ByteArray) ++ t572).toList then (if 3 < (t558.length : Int) then ((impl_CountSymmetries.f k t551 t554).bind fun t574 => ((impl_FormatInt.f t574).bind fun t575 => (if 11 + t575.size ≤ 9223372036854775807 then (laws_FnReports.j0 k t561 ((rdOf ByteArray.empty t558 3).toList != ((⟨#[115, 121, 109, 109, 101, 116, 114, 105, 101, 115, 32]⟩ : ByteArray) ++ t575).toList)) else (none)))) else (none)) else (laws_FnReports.j0 k t561 true)) else (none)))) else (none)) else (laws_FnReports.j0 k t561 true)) else (none))) else (none)) else (none)) = some r := H
  have A18 := Aside0.mk A180
  clear A180
  by_cases c19 : 8 + t566.size ≤ 9223372036854775807
  {
  rw [if_pos c19] at H
  have c19b0 := eq_true c19
  have c19b1 : decide (8 + t566.size ≤ 9223372036854775807) = true := decide_eq_true c19
  try have c19b2 : (9223372036854775807 < 8 + t566.size) = False := eq_false (Nat.not_lt.2 c19)
  by_cases c20 : ((⟨#[115, 113, 117, 97, 114, 101, 115, 32]⟩ : ByteArray) ++ t566).size + 1 ≤ 9223372036854775807
  {
  rw [if_pos c20] at H
  have c20b0 := eq_true c20
  have c20b1 : decide (((⟨#[115, 113, 117, 97, 114, 101, 115, 32]⟩ : ByteArray) ++ t566).size + 1 ≤ 9223372036854775807) = true := decide_eq_true c20
  try have c20b2 : (9223372036854775807 < ((⟨#[115, 113, 117, 97, 114, 101, 115, 32]⟩ : ByteArray) ++ t566).size + 1) = False := eq_false (Nat.not_lt.2 c20)
  try have c20b3 : (9223372036854775807 < 8 + t566.size + 1) = False := eq_false (Nat.not_lt.2 (by have hz_ := c20; simp only [ByteArray.size_append] at hz_; first | exact hz_ | omega))
  replace H := Option.bind_eq_some_iff.mp H
  obtain ⟨t567, A210, H⟩ := H
  replace H : (if (((⟨#[115, 113, 117, 97, 114, 101, 115, 32]⟩ : ByteArray) ++ t566) ++ (⟨#[32]⟩ : ByteArray)).size + t567.size ≤ 9223372036854775807 then (if (rdOf ByteArray.empty t558 0).toList = ((((⟨#[115, 113, 117, 97, 114, 101, 115, 32]⟩ : ByteArray) ++ t566) ++ (⟨#[32]⟩ : ByteArray)) ++ t567).toList then (if 1 < (t558.length : Int) then ((impl_AnglesOf.f k t551 t554).bind fun t569 => ((impl_FormatList.f k t569).bind fun t572 => (if 7 + t572.size ≤ 9223372036854775807 then (if (rdOf ByteArray.empty t558 1).toList = ((⟨#[97, 110, 103, 108, 101, 115, 32]⟩ : ByteArray) ++ t572).toList then (if 3 < (t558.length : Int) then ((impl_CountSymmetries.f k t551 t554).bind fun t574 => ((impl_FormatInt.f t574).bind fun t575 => (if 11 + t575.size ≤ 9223372036854775807 then (laws_FnReports.j0 k t561 ((rdOf ByteArray.empty t558 3).toList != ((⟨#[115, 121, 109, 109, 101, 116, 114, 105, 101, 115, 32]⟩ : ByteArray) ++ t575).toList)) else (none)))) else (none)) else (laws_FnReports.j0 k t561 true)) else (none)))) else (none)) else (laws_FnReports.j0 k t561 true)) else (none)) = some r := H
  have A21 := Aside0.mk A210
  clear A210
  by_cases c22 : (((⟨#[115, 113, 117, 97, 114, 101, 115, 32]⟩ : ByteArray) ++ t566) ++ (⟨#[32]⟩ : ByteArray)).size + t567.size ≤ 9223372036854775807
  {
  rw [if_pos c22] at H
  have c22b0 := eq_true c22
  have c22b1 : decide ((((⟨#[115, 113, 117, 97, 114, 101, 115, 32]⟩ : ByteArray) ++ t566) ++ (⟨#[32]⟩ : ByteArray)).size + t567.size ≤ 9223372036854775807) = true := decide_eq_true c22
  try have c22b2 : (9223372036854775807 < (((⟨#[115, 113, 117, 97, 114, 101, 115, 32]⟩ : ByteArray) ++ t566) ++ (⟨#[32]⟩ : ByteArray)).size + t567.size) = False := eq_false (Nat.not_lt.2 c22)
  try have c22b3 : (9223372036854775807 < 8 + t566.size + 1 + t567.size) = False := eq_false (Nat.not_lt.2 (by have hz_ := c22; simp only [ByteArray.size_append] at hz_; first | exact hz_ | omega))
  by_cases c23 : (rdOf ByteArray.empty t558 0).toList = ((((⟨#[115, 113, 117, 97, 114, 101, 115, 32]⟩ : ByteArray) ++ t566) ++ (⟨#[32]⟩ : ByteArray)) ++ t567).toList
  {
  rw [if_pos c23] at H
  have c23b0 : ((rdOf ByteArray.empty t558 0).toList == ((((⟨#[115, 113, 117, 97, 114, 101, 115, 32]⟩ : ByteArray) ++ t566) ++ (⟨#[32]⟩ : ByteArray)) ++ t567).toList) = true := beq_iff_eq.mpr c23
  have c23b1 : ((rdOf ByteArray.empty t558 0).toList != ((((⟨#[115, 113, 117, 97, 114, 101, 115, 32]⟩ : ByteArray) ++ t566) ++ (⟨#[32]⟩ : ByteArray)) ++ t567).toList) = false := bne_eq_false_iff_eq.mpr c23
  clear c23
  by_cases c24 : 1 < (t558.length : Int)
  {
  rw [if_pos c24] at H
  have c24b0 : decide (1 < (t558.length : Int)) = true := decide_eq_true c24
  have c24b1 : decide (1 < t558.length) = true := decide_eq_true (by omega)
  clear c24
  replace H := Option.bind_eq_some_iff.mp H
  obtain ⟨t569, A250, H⟩ := H
  replace H : ((impl_FormatList.f k t569).bind fun t572 => (if 7 + t572.size ≤ 9223372036854775807 then (if (rdOf ByteArray.empty t558 1).toList = ((⟨#[97, 110, 103, 108, 101, 115, 32]⟩ : ByteArray) ++ t572).toList then (if 3 < (t558.length : Int) then ((impl_CountSymmetries.f k t551 t554).bind fun t574 => ((impl_FormatInt.f t574).bind fun t575 => (if 11 + t575.size ≤ 9223372036854775807 then (laws_FnReports.j0 k t561 ((rdOf ByteArray.empty t558 3).toList != ((⟨#[115, 121, 109, 109, 101, 116, 114, 105, 101, 115, 32]⟩ : ByteArray) ++ t575).toList)) else (none)))) else (none)) else (laws_FnReports.j0 k t561 true)) else (none))) = some r := H
  have A25 := Aside0.mk A250
  clear A250
  replace H := Option.bind_eq_some_iff.mp H
  obtain ⟨t572, A260, H⟩ := H
  replace H : (if 7 + t572.size ≤ 9223372036854775807 then (if (rdOf ByteArray.empty t558 1).toList = ((⟨#[97, 110, 103, 108, 101, 115, 32]⟩ : ByteArray) ++ t572).toList then (if 3 < (t558.length : Int) then ((impl_CountSymmetries.f k t551 t554).bind fun t574 => ((impl_FormatInt.f t574).bind fun t575 => (if 11 + t575.size ≤ 9223372036854775807 then (laws_FnReports.j0 k t561 ((rdOf ByteArray.empty t558 3).toList != ((⟨#[115, 121, 109, 109, 101, 116, 114, 105, 101, 115, 32]⟩ : ByteArray) ++ t575).toList)) else (none)))) else (none)) else (laws_FnReports.j0 k t561 true)) else (none)) = some r := H
  have A26 := Aside0.mk A260
  clear A260
  by_cases c27 : 7 + t572.size ≤ 9223372036854775807
  {
  rw [if_pos c27] at H
  have c27b0 := eq_true c27
  have c27b1 : decide (7 + t572.size ≤ 9223372036854775807) = true := decide_eq_true c27
  try have c27b2 : (9223372036854775807 < 7 + t572.size) = False := eq_false (Nat.not_lt.2 c27)
  by_cases c28 : (rdOf ByteArray.empty t558 1).toList = ((⟨#[97, 110, 103, 108, 101, 115, 32]⟩ : ByteArray) ++ t572).toList
  {
  rw [if_pos c28] at H
  have c28b0 : ((rdOf ByteArray.empty t558 1).toList == ((⟨#[97, 110, 103, 108, 101, 115, 32]⟩ : ByteArray) ++ t572).toList) = true := beq_iff_eq.mpr c28
  have c28b1 : ((rdOf ByteArray.empty t558 1).toList != ((⟨#[97, 110, 103, 108, 101, 115, 32]⟩ : ByteArray) ++ t572).toList) = false := bne_eq_false_iff_eq.mpr c28
  clear c28
  by_cases c29 : 3 < (t558.length : Int)
  {
  rw [if_pos c29] at H
  have c29b0 : decide (3 < (t558.length : Int)) = true := decide_eq_true c29
  have c29b1 : decide (3 < t558.length) = true := decide_eq_true (by omega)
  clear c29
  replace H := Option.bind_eq_some_iff.mp H
  obtain ⟨t574, A300, H⟩ := H
  replace H : ((impl_FormatInt.f t574).bind fun t575 => (if 11 + t575.size ≤ 9223372036854775807 then (laws_FnReports.j0 k t561 ((rdOf ByteArray.empty t558 3).toList != ((⟨#[115, 121, 109, 109, 101, 116, 114, 105, 101, 115, 32]⟩ : ByteArray) ++ t575).toList)) else (none))) = some r := H
  have A30 := Aside0.mk A300
  clear A300
  replace H := Option.bind_eq_some_iff.mp H
  obtain ⟨t575, A310, H⟩ := H
  replace H : (if 11 + t575.size ≤ 9223372036854775807 then (laws_FnReports.j0 k t561 ((rdOf ByteArray.empty t558 3).toList != ((⟨#[115, 121, 109, 109, 101, 116, 114, 105, 101, 115, 32]⟩ : ByteArray) ++ t575).toList)) else (none)) = some r := H
  have A31 := Aside0.mk A310
  clear A310
  by_cases c32 : 11 + t575.size ≤ 9223372036854775807
  {
  rw [if_pos c32] at H
  have c32b0 := eq_true c32
  have c32b1 : decide (11 + t575.size ≤ 9223372036854775807) = true := decide_eq_true c32
  try have c32b2 : (9223372036854775807 < 11 + t575.size) = False := eq_false (Nat.not_lt.2 c32)
  have H' := Aside0.mk H
  clear H
  try go_wp2
  have n0_ := Aside0.mk (Kd.R_drew HO553.out)
  have n1_ := Aside0.mk (Kd.R_drew HO556.out)
  have n2_ := Aside0.mk (Kd.R_drew HO560.out)
  have n3_ := Aside0.mk (Kd.R_drew HO563.out)
  have n4_ := Aside0.mk (blk_drew BK557.out)
  have n5_ := Aside0.mk (below_drew1 HB.out)
  clear HO553 HO556 HO560 HO563 BK557 HB
  have HO553 := n0_
  have HO556 := n1_
  have HO560 := n2_
  have HO563 := n3_
  have BK557 := n4_
  have HB := n5_
  clear n0_ n1_ n2_ n3_ n4_ n5_
  obtain ⟨Ao34, co34, eo34⟩ := Kd.R_slice HO560.out
  (first | subst eo34 | (injection eo34 with f1_ f2_ f3_; have f4_ := f1_.symm; have f5_ := f3_.symm; clear f1_ f2_ f3_; subst f4_; subst f5_))
  have p565 : 0 ≤ (0 : Int) := (by omega)
  have q565 : 0 < (t558.length : Int) := dX
  obtain ⟨ad565, e565, hx565_0⟩ := Kd.at_string (Kd.R_reads' HO560.out).2.2 0 p565 q565
  cases e565
  have qi565 : (0 < t558.length) = True := eq_true (by omega)
  (try rw [show ((0 : Int)).toNat = 0 from rfl] at hx565_0)
  (try rw [Addr.add_zero'] at hx565_0)
  replace p565 := eq_true p565
  replace q565 := eq_true q565
  have p568 : 0 ≤ (1 : Int) := (by omega)
  have q568 : 1 < (t558.length : Int) := dX
  obtain ⟨ad568, e568, hx568_0⟩ := Kd.at_string (Kd.R_reads' HO560.out).2.2 1 p568 q568
  obtain rfl : ad565 = ad568 := (by injection e568)
  (try simp only [show (1 : Int).toNat = 1 from rfl, Nat.reduceMul, Nat.reduceEqDiff, Go.Addr.add, ↓reduceIte] at hx568_0)
  have qi568 : (1 < t558.length) = True := eq_true (by omega)
  (try rw [show ((1 : Int)).toNat = 1 from rfl] at hx568_0)
  replace p568 := eq_true p568
  replace q568 := eq_true q568
  have p573 : 0 ≤ (3 : Int) := (by omega)
  have q573 : 3 < (t558.length : Int) := dX
  obtain ⟨ad573, e573, hx573_0⟩ := Kd.at_string (Kd.R_reads' HO560.out).2.2 3 p573 q573
  obtain rfl : ad565 = ad573 := (by injection e573)
  (try simp only [show (3 : Int).toNat = 3 from rfl, Nat.reduceMul, Nat.reduceEqDiff, Go.Addr.add, ↓reduceIte] at hx573_0)
  have qi573 : (3 < t558.length) = True := eq_true (by omega)
  (try rw [show ((3 : Int)).toNat = 3 from rfl] at hx573_0)
  replace p573 := eq_true p573
  replace q573 := eq_true q573
  refine start_ (n := 42) (S := fun w' => w'.cell? ⟨gb557, 0, none⟩ = some (.slice Ao9 t551.length co9) ∧ w'.cell? ⟨gb557, 1, none⟩ = some (.slice Ao11 t554.length co11) ∧ w'.cell? ad565 = some (.string (rdOf ByteArray.empty t558 0)) ∧ w'.cell? ⟨ad565.block, ad565.off + 1, none⟩ = some (.string (rdOf ByteArray.empty t558 1)) ∧ w'.cell? ⟨ad565.block, ad565.off + 3, none⟩ = some (.string (rdOf ByteArray.empty t558 3))) (ds := []) #[ff,ff,ff,ff,ff,ff,ff,ff,ff,ff,ff,ff,ff,ff,ff,ff,ff,ff,ff,ff,ff,ff,ff,ff,ff,ff,ff,ff,ff,ff,ff,ff,ff,ff,ff,ff,ff,ff,ff,ff,ff,ff] (by kernel_rfl) rfl rfl ⟨cz20 BK557.out, cz21 BK557.out, hx565_0, hx568_0, hx573_0⟩ (fun hHeld => ?_); refine with_tabW laws_FnReports.tab6 laws_FnReports.bits6 (fun HT_ HW_ => ?_)
  generalize w14.drew = w33 at HO553 HO556 HO560 HO563 BK557 HB hx565_0 hx568_0 hx573_0 hHeld ⊢
  refine pX 0 22 (fl 42 1) rfl rfl HT_.out ?_
  refine pX 1 23 (fl 42 3) rfl rfl HT_.out ?_
  refine pX 2 24 (fl 42 7) rfl rfl HT_.out ?_
  refine pX 3 25 (fl 42 15) rfl rfl HT_.out ?_
  refine pX 4 26 (fl 42 31) rfl rfl HT_.out ?_
  refine pX 5 27 (fl 42 63) rfl rfl HT_.out ?_
  refine pX 6 28 (fl 42 127) rfl rfl HT_.out ?_
  refine pX 7 29 (fl 42 255) rfl rfl HT_.out ?_
  refine pX 8 30 (fl 42 511) rfl rfl HT_.out ?_
  refine pX 9 31 (fl 42 1023) rfl rfl HT_.out ?_
  refine pX 11 33 (fl 42 3071) rfl rfl HT_.out ?_
  refine tX5 10 32 (fl 42 4095) rfl rfl HT_.out HW_.out hHeld ?_
  refine tX5 12 34 (fl 42 8191) rfl rfl HT_.out HW_.out hHeld ?_
  refine pX 13 35 (fl 42 16383) rfl rfl HT_.out ?_
  refine tX5 17 39 (fl 42 147455) rfl rfl HT_.out HW_.out hHeld ?_
  refine one_ (i := 14) (N := some 36) #[tt,tt,tt,tt,tt,tt,tt,tt,tt,tt,tt,tt,tt,tt,tt,ff,ff,tt,ff,ff,ff,ff,ff,ff,ff,ff,ff,ff,ff,ff,ff,ff,ff,ff,ff,ff,ff,ff,ff,ff,ff,ff] rfl rfl (one_of HT_.out (by kernel_rfl)) (by decide) (fun K hK => ?_)
  refine goes_ Tryz.func9 (by kernel_rfl) rfl #[.int .i64 (t551.length : Int)] (by rfl) rfl rfl aX ?_
  with_reducible refine (impl_FormatInt.calls (t551.length : Int) t566 _ ?side1 A18.out).mono ?_
  (case side1 => exact PowTab.below HTAB.out (bX1 HB.out GE557.out))
  rintro e w35 ⟨rfl, hb⟩
  have HS2_ := (hb.cell (World.block_lt_of_cell? _ _ (hHeld.2.2.1))).trans (hHeld.2.2.1)
  have HS3_ := (hb.cell (World.block_lt_of_cell? _ _ (hHeld.2.2.2.1))).trans (hHeld.2.2.2.1)
  have HS4_ := (hb.cell (World.block_lt_of_cell? _ _ (hHeld.2.2.2.2))).trans (hHeld.2.2.2.2)
  refine ⟨_, rfl, ?_⟩
  have n0_ := Aside0.mk (Kd.R_below (rX HO553.out) hb)
  have n1_ := Aside0.mk (Kd.R_below (rX HO556.out) hb)
  have n2_ := Aside0.mk (Kd.R_below (rX HO560.out) hb)
  have n3_ := Aside0.mk (Kd.R_below (rX HO563.out) hb)
  have n4_ := Aside0.mk (bbX BK557.out hb)
  have n5_ := Aside0.mk (below_step (bX1 HB.out GE557.out) hb)
  clear HO553 HO556 HO560 HO563 BK557 HB
  have HO553 := n0_
  have HO556 := n1_
  have HO560 := n2_
  have HO563 := n3_
  have BK557 := n4_
  have HB := n5_
  clear n0_ n1_ n2_ n3_ n4_ n5_
  (try clear hb)
  (try clear hb2)
  (try clear hk)
  (try clear hi)
  refine hK.out _ _ ⟨cz20 BK557.out, cz21 BK557.out, HS2_, HS3_, HS4_⟩ (fun hHeld => ?_)
  clear hK K
  refine norm_ (a' := ?_) ?_ ?_
  rotate_left
  {
  show Act.put _ (some 36) _ = _
  simp only [Act.put, zA, zB, zC, i64_w, i32_w]
  rfl
  }
  refine pX 15 37 (fl 42 196607) rfl rfl HT_.out ?_
  refine pX 16 38 (fl 42 262143) rfl rfl HT_.out ?_
  refine one_ (i := 18) (N := some 40) #[tt,tt,tt,tt,tt,tt,tt,tt,tt,tt,tt,tt,tt,tt,tt,tt,tt,tt,tt,ff,ff,ff,ff,ff,ff,ff,ff,ff,ff,ff,ff,ff,ff,ff,ff,ff,ff,ff,ff,ff,ff,ff] rfl rfl (one_of HT_.out (by kernel_rfl)) (by decide) (fun K hK => ?_)
  refine goes_ Tryz.func10 (by kernel_rfl) rfl #[.agg #[.slice Ao9 t551.length co9, .slice Ao11 t554.length co11]] (by rfl) rfl rfl aX ?_
  with_reducible refine (impl_FormatSurface.calls k _ _ t551 _ _ t554 t567 _ ?side1 ?side2 ?side3 ?side4 ?side5 A21.out).mono ?_
  (case side1 => exact cX (Kd.R_reads' HO553.out).2.2)
  (case side2 => exact (Kd.R_reads' HO553.out).2.1)
  (case side3 => exact cX (Kd.R_reads' HO556.out).2.2)
  (case side4 => exact (Kd.R_reads' HO556.out).2.1)
  (case side5 => exact PowTab.below HTAB.out (bX1 HB.out GE557.out))
  rintro e w36 ⟨rfl, hb⟩
  have HS2_ := (hb.cell (World.block_lt_of_cell? _ _ (hHeld.2.2.1))).trans (hHeld.2.2.1)
  have HS3_ := (hb.cell (World.block_lt_of_cell? _ _ (hHeld.2.2.2.1))).trans (hHeld.2.2.2.1)
  have HS4_ := (hb.cell (World.block_lt_of_cell? _ _ (hHeld.2.2.2.2))).trans (hHeld.2.2.2.2)
  refine ⟨_, rfl, ?_⟩
  have n0_ := Aside0.mk (Kd.R_below (rX HO553.out) hb)
  have n1_ := Aside0.mk (Kd.R_below (rX HO556.out) hb)
  have n2_ := Aside0.mk (Kd.R_below (rX HO560.out) hb)
  have n3_ := Aside0.mk (Kd.R_below (rX HO563.out) hb)
  have n4_ := Aside0.mk (bbX BK557.out hb)
  have n5_ := Aside0.mk (below_step (bX1 HB.out GE557.out) hb)
  clear HO553 HO556 HO560 HO563 BK557 HB
  have HO553 := n0_
  have HO556 := n1_
  have HO560 := n2_
  have HO563 := n3_
  have BK557 := n4_
  have HB := n5_
  clear n0_ n1_ n2_ n3_ n4_ n5_
  (try clear hb)
  (try clear hb2)
  (try clear hk)
  (try clear hi)
  refine hK.out _ _ ⟨cz20 BK557.out, cz21 BK557.out, HS2_, HS3_, HS4_⟩ (fun hHeld => ?_)
  clear hK K
  refine norm_ (a' := ?_) ?_ ?_
  rotate_left
  {
  show Act.put _ (some 40) _ = _
  simp only [Act.put, zA, zB, zC, i64_w, i32_w]
  rfl
  }
  refine pX 19 41 (fl 42 1048575) rfl rfl HT_.out ?_
  refine pX 20 42 (fl 42 2097151) rfl rfl HT_.out ?_
  refine pX 21 43 (fl 42 4194303) rfl rfl HT_.out ?_
  refine pX 22 44 (fl 42 8388607) rfl rfl HT_.out ?_
  refine pX 23 45 (fl 42 16777215) rfl rfl HT_.out ?_
  refine pX 24 46 (fl 42 33554431) rfl rfl HT_.out ?_
  refine tX5 25 47 (fl 42 67108863) rfl rfl HT_.out HW_.out hHeld ?_
  refine tX5 26 48 (fl 42 134217727) rfl rfl HT_.out HW_.out hHeld ?_
  refine one_ (i := 27) (N := some 49) #[tt,tt,tt,tt,tt,tt,tt,tt,tt,tt,tt,tt,tt,tt,tt,tt,tt,tt,tt,tt,tt,tt,tt,tt,tt,tt,tt,tt,ff,ff,ff,ff,ff,ff,ff,ff,ff,ff,ff,ff,ff,ff] rfl rfl (one_of HT_.out (by kernel_rfl)) (by decide) (fun K hK => ?_)
  refine goes_ Tryz.func12 (by kernel_rfl) rfl #[.agg #[.slice Ao9 t551.length co9, .slice Ao11 t554.length co11]] (by rfl) rfl rfl aX ?_
  with_reducible refine (impl_AnglesOf.calls k _ _ t551 _ _ t554 t569 _ ?side1 ?side2 ?side3 ?side4 A25.out).mono ?_
  (case side1 => exact cX (Kd.R_reads' HO553.out).2.2)
  (case side2 => exact (Kd.R_reads' HO553.out).2.1)
  (case side3 => exact cX (Kd.R_reads' HO556.out).2.2)
  (case side4 => exact (Kd.R_reads' HO556.out).2.1)
  rintro e w37 ⟨v570, rfl, ho0, hb⟩
  have HS2_ := (hb.cell (World.block_lt_of_cell? _ _ (hHeld.2.2.1))).trans (hHeld.2.2.1)
  have HS3_ := (hb.cell (World.block_lt_of_cell? _ _ (hHeld.2.2.2.1))).trans (hHeld.2.2.2.1)
  have HS4_ := (hb.cell (World.block_lt_of_cell? _ _ (hHeld.2.2.2.2))).trans (hHeld.2.2.2.2)
  refine ⟨_, rfl, ?_⟩
  have n0_ := Aside0.mk (Kd.R_elder' (rX HO553.out) (Kd.R_base ho0) hb)
  have n1_ := Aside0.mk (Kd.R_elder' (rX HO556.out) (Kd.R_base ho0) hb)
  have n2_ := Aside0.mk (Kd.R_below (rX HO560.out) hb)
  have n3_ := Aside0.mk (Kd.R_below (rX HO563.out) hb)
  have n4_ := Aside0.mk (Kd.R_lower (Kd.R_new' (Kd.R_new' ho0 (Kd.R_lt (rX HO553.out))) (Kd.R_lt (rX HO556.out))) (below_size (bX1 HB.out GE557.out)))
  have n5_ := Aside0.mk (bbX BK557.out hb)
  have n6_ := Aside0.mk (below_step (bX1 HB.out GE557.out) hb)
  clear HO553 HO556 HO560 HO563 BK557 HB
  have HO553 := n0_
  have HO556 := n1_
  have HO560 := n2_
  have HO563 := n3_
  have HO571 := n4_
  have BK557 := n5_
  have HB := n6_
  clear n0_ n1_ n2_ n3_ n4_ n5_ n6_
  (try clear hb)
  (try clear hb2)
  (try clear hk)
  (try clear hi)
  (try clear ho0)
  obtain ⟨Ao38, co38, eo38⟩ := Kd.R_slice HO571.out
  (first | subst eo38 | (injection eo38 with f1_ f2_ f3_; have f4_ := f1_.symm; have f5_ := f3_.symm; clear f1_ f2_ f3_; subst f4_; subst f5_))
  refine hK.out _ _ ⟨cz20 BK557.out, cz21 BK557.out, HS2_, HS3_, HS4_⟩ (fun hHeld => ?_)
  clear hK K
  refine norm_ (a' := ?_) ?_ ?_
  rotate_left
  {
  show Act.put _ (some 49) _ = _
  simp only [Act.put, zA, zB, zC, i64_w, i32_w]
  rfl
  }
  refine one_ (i := 28) (N := some 50) #[tt,tt,tt,tt,tt,tt,tt,tt,tt,tt,tt,tt,tt,tt,tt,tt,tt,tt,tt,tt,tt,tt,tt,tt,tt,tt,tt,tt,tt,ff,ff,ff,ff,ff,ff,ff,ff,ff,ff,ff,ff,ff] rfl rfl (one_of HT_.out (by kernel_rfl)) (by decide) (fun K hK => ?_)
  refine goes_ Tryz.func11 (by kernel_rfl) rfl #[.slice Ao38 t569.length co38] (by rfl) rfl rfl aX ?_
  with_reducible refine (impl_FormatList.calls k _ _ t569 t572 _ ?side1 ?side2 ?side3 A26.out).mono ?_
  (case side1 => exact cX (Kd.R_reads' HO571.out).2.2)
  (case side2 => exact (Kd.R_reads' HO571.out).2.1)
  (case side3 => exact PowTab.below HTAB.out (bX1 HB.out GE557.out))
  rintro e w39 ⟨rfl, hb⟩
  have HS2_ := (hb.cell (World.block_lt_of_cell? _ _ (hHeld.2.2.1))).trans (hHeld.2.2.1)
  have HS3_ := (hb.cell (World.block_lt_of_cell? _ _ (hHeld.2.2.2.1))).trans (hHeld.2.2.2.1)
  have HS4_ := (hb.cell (World.block_lt_of_cell? _ _ (hHeld.2.2.2.2))).trans (hHeld.2.2.2.2)
  refine ⟨_, rfl, ?_⟩
  have n0_ := Aside0.mk (Kd.R_below (rX HO553.out) hb)
  have n1_ := Aside0.mk (Kd.R_below (rX HO556.out) hb)
  have n2_ := Aside0.mk (Kd.R_below (rX HO560.out) hb)
  have n3_ := Aside0.mk (Kd.R_below (rX HO563.out) hb)
  have n4_ := Aside0.mk (Kd.R_below (rX HO571.out) hb)
  have n5_ := Aside0.mk (bbX BK557.out hb)
  have n6_ := Aside0.mk (below_step (bX1 HB.out GE557.out) hb)
  clear HO553 HO556 HO560 HO563 HO571 BK557 HB
  have HO553 := n0_
  have HO556 := n1_
  have HO560 := n2_
  have HO563 := n3_
  have HO571 := n4_
  have BK557 := n5_
  have HB := n6_
  clear n0_ n1_ n2_ n3_ n4_ n5_ n6_
  (try clear hb)
  (try clear hb2)
  (try clear hk)
  (try clear hi)
  refine hK.out _ _ ⟨cz20 BK557.out, cz21 BK557.out, HS2_, HS3_, HS4_⟩ (fun hHeld => ?_)
  clear hK K
  refine norm_ (a' := ?_) ?_ ?_
  rotate_left
  {
  show Act.put _ (some 50) _ = _
  simp only [Act.put, zA, zB, zC, i64_w, i32_w]
  rfl
  }
  refine pX 29 51 (fl 42 1073741823) rfl rfl HT_.out ?_
  refine pX 30 52 (fl 42 2147483647) rfl rfl HT_.out ?_
  refine pX 31 53 (fl 42 4294967295) rfl rfl HT_.out ?_
  refine pX 32 54 (fl 42 8589934591) rfl rfl HT_.out ?_
  refine pX 33 55 (fl 42 17179869183) rfl rfl HT_.out ?_
  refine pX 34 56 (fl 42 34359738367) rfl rfl HT_.out ?_
  refine tX5 35 57 (fl 42 68719476735) rfl rfl HT_.out HW_.out hHeld ?_
  refine tX5 36 58 (fl 42 137438953471) rfl rfl HT_.out HW_.out hHeld ?_
  refine one_ (i := 37) (N := some 59) #[tt,tt,tt,tt,tt,tt,tt,tt,tt,tt,tt,tt,tt,tt,tt,tt,tt,tt,tt,tt,tt,tt,tt,tt,tt,tt,tt,tt,tt,tt,tt,tt,tt,tt,tt,tt,tt,tt,ff,ff,ff,ff] rfl rfl (one_of HT_.out (by kernel_rfl)) (by decide) (fun K hK => ?_)
  refine goes_ Tryz.func13 (by kernel_rfl) rfl #[.agg #[.slice Ao9 t551.length co9, .slice Ao11 t554.length co11]] (by rfl) rfl rfl aX ?_
  with_reducible refine (impl_CountSymmetries.calls k _ _ t551 _ _ t554 t574 _ ?side1 ?side2 ?side3 ?side4 A30.out).mono ?_
  (case side1 => exact cX (Kd.R_reads' HO553.out).2.2)
  (case side2 => exact (Kd.R_reads' HO553.out).2.1)
  (case side3 => exact cX (Kd.R_reads' HO556.out).2.2)
  (case side4 => exact (Kd.R_reads' HO556.out).2.1)
  rintro e w40 ⟨rfl, hb⟩
  have HS2_ := (hb.cell (World.block_lt_of_cell? _ _ (hHeld.2.2.1))).trans (hHeld.2.2.1)
  have HS3_ := (hb.cell (World.block_lt_of_cell? _ _ (hHeld.2.2.2.1))).trans (hHeld.2.2.2.1)
  have HS4_ := (hb.cell (World.block_lt_of_cell? _ _ (hHeld.2.2.2.2))).trans (hHeld.2.2.2.2)
  refine ⟨_, rfl, ?_⟩
  have n0_ := Aside0.mk (Kd.R_below (rX HO553.out) hb)
  have n1_ := Aside0.mk (Kd.R_below (rX HO556.out) hb)
  have n2_ := Aside0.mk (Kd.R_below (rX HO560.out) hb)
  have n3_ := Aside0.mk (Kd.R_below (rX HO563.out) hb)
  have n4_ := Aside0.mk (Kd.R_below (rX HO571.out) hb)
  have n5_ := Aside0.mk (bbX BK557.out hb)
  have n6_ := Aside0.mk (below_step (bX1 HB.out GE557.out) hb)
  clear HO553 HO556 HO560 HO563 HO571 BK557 HB
  have HO553 := n0_
  have HO556 := n1_
  have HO560 := n2_
  have HO563 := n3_
  have HO571 := n4_
  have BK557 := n5_
  have HB := n6_
  clear n0_ n1_ n2_ n3_ n4_ n5_ n6_
  (try clear hb)
  (try clear hb2)
  (try clear hk)
  (try clear hi)
  refine hK.out _ _ ⟨cz20 BK557.out, cz21 BK557.out, HS2_, HS3_, HS4_⟩ (fun hHeld => ?_)
  clear hK K
  refine norm_ (a' := ?_) ?_ ?_
  rotate_left
  {
  show Act.put _ (some 59) _ = _
  simp only [Act.put, zA, zB, zC, i64_w, i32_w]
  rfl
  }
  refine one_ (i := 38) (N := some 60) #[tt,tt,tt,tt,tt,tt,tt,tt,tt,tt,tt,tt,tt,tt,tt,tt,tt,tt,tt,tt,tt,tt,tt,tt,tt,tt,tt,tt,tt,tt,tt,tt,tt,tt,tt,tt,tt,tt,tt,ff,ff,ff] rfl rfl (one_of HT_.out (by kernel_rfl)) (by decide) (fun K hK => ?_)
  refine goes_ Tryz.func9 (by kernel_rfl) rfl #[.int .i64 t574] (by rfl) rfl rfl aX ?_
  with_reducible refine (impl_FormatInt.calls t574 t575 _ ?side1 A31.out).mono ?_
  (case side1 => exact PowTab.below HTAB.out (bX1 HB.out GE557.out))
  rintro e w41 ⟨rfl, hb⟩
  have HS2_ := (hb.cell (World.block_lt_of_cell? _ _ (hHeld.2.2.1))).trans (hHeld.2.2.1)
  have HS3_ := (hb.cell (World.block_lt_of_cell? _ _ (hHeld.2.2.2.1))).trans (hHeld.2.2.2.1)
  have HS4_ := (hb.cell (World.block_lt_of_cell? _ _ (hHeld.2.2.2.2))).trans (hHeld.2.2.2.2)
  refine ⟨_, rfl, ?_⟩
  have n0_ := Aside0.mk (Kd.R_below (rX HO553.out) hb)
  have n1_ := Aside0.mk (Kd.R_below (rX HO556.out) hb)
  have n2_ := Aside0.mk (Kd.R_below (rX HO560.out) hb)
  have n3_ := Aside0.mk (Kd.R_below (rX HO563.out) hb)
  have n4_ := Aside0.mk (Kd.R_below (rX HO571.out) hb)
  have n5_ := Aside0.mk (bbX BK557.out hb)
  have n6_ := Aside0.mk (below_step (bX1 HB.out GE557.out) hb)
  clear HO553 HO556 HO560 HO563 HO571 BK557 HB
  have HO553 := n0_
  have HO556 := n1_
  have HO560 := n2_
  have HO563 := n3_
  have HO571 := n4_
  have BK557 := n5_
  have HB := n6_
  clear n0_ n1_ n2_ n3_ n4_ n5_ n6_
  (try clear hb)
  (try clear hb2)
  (try clear hk)
  (try clear hi)
  refine hK.out _ _ ⟨cz20 BK557.out, cz21 BK557.out, HS2_, HS3_, HS4_⟩ (fun hHeld => ?_)
  clear hK K
  refine norm_ (a' := ?_) ?_ ?_
  rotate_left
  {
  show Act.put _ (some 60) _ = _
  simp only [Act.put, zA, zB, zC, i64_w, i32_w]
  rfl
  }
  refine pX 39 61 (fl 42 1099511627775) rfl rfl HT_.out ?_
  refine pX 40 62 (fl 42 2199023255551) rfl rfl HT_.out ?_
  refine pX 41 63 (fl 42 4398046511103) rfl rfl HT_.out ?_
  refine done_ (done_of HT_.out (by kernel_rfl)) ?_
  try go_wp2
  go_meet
  case rel => exact ⟨_, (((rdOf ByteArray.empty t558 3).toList != ((⟨#[115, 121, 109, 109, 101, 116, 114, 105, 101, 115, 32]⟩ : ByteArray) ++ t575).toList)), vX, H', ⟨by first | omega | exact Nat.le_refl _⟩, ⟨rX HO563.out⟩, ⟨rM HO553.out (fun _ hk => hk.1)⟩, ⟨rM HO556.out (fun _ hk => hk.1)⟩, ⟨kX BK557.out⟩, ⟨bX1 HB.out GE557.out⟩⟩
  }
  {
  rw [if_neg c32] at H
  exact absurd H (by simp)
  }
  }
  {
  rw [if_neg c29] at H
  exact absurd H (by simp)
  }
  }
  {
  rw [if_neg c28] at H
  have c28b0 : ((rdOf ByteArray.empty t558 1).toList == ((⟨#[97, 110, 103, 108, 101, 115, 32]⟩ : ByteArray) ++ t572).toList) = false := beq_eq_false_iff_ne.mpr c28
  have c28b1 : ((rdOf ByteArray.empty t558 1).toList != ((⟨#[97, 110, 103, 108, 101, 115, 32]⟩ : ByteArray) ++ t572).toList) = true := bne_iff_ne.mpr c28
  have H' := Aside0.mk H
  clear H
  try go_wp2
  have n0_ := Aside0.mk (Kd.R_drew HO553.out)
  have n1_ := Aside0.mk (Kd.R_drew HO556.out)
  have n2_ := Aside0.mk (Kd.R_drew HO560.out)
  have n3_ := Aside0.mk (Kd.R_drew HO563.out)
  have n4_ := Aside0.mk (blk_drew BK557.out)
  have n5_ := Aside0.mk (below_drew1 HB.out)
  clear HO553 HO556 HO560 HO563 BK557 HB
  have HO553 := n0_
  have HO556 := n1_
  have HO560 := n2_
  have HO563 := n3_
  have BK557 := n4_
  have HB := n5_
  clear n0_ n1_ n2_ n3_ n4_ n5_
  obtain ⟨Ao43, co43, eo43⟩ := Kd.R_slice HO560.out
  (first | subst eo43 | (injection eo43 with f1_ f2_ f3_; have f4_ := f1_.symm; have f5_ := f3_.symm; clear f1_ f2_ f3_; subst f4_; subst f5_))
  have p565 : 0 ≤ (0 : Int) := (by omega)
  have q565 : 0 < (t558.length : Int) := dX
  obtain ⟨ad565, e565, hx565_0⟩ := Kd.at_string (Kd.R_reads' HO560.out).2.2 0 p565 q565
  cases e565
  have qi565 : (0 < t558.length) = True := eq_true (by omega)
  (try rw [show ((0 : Int)).toNat = 0 from rfl] at hx565_0)
  (try rw [Addr.add_zero'] at hx565_0)
  replace p565 := eq_true p565
  replace q565 := eq_true q565
  have p568 : 0 ≤ (1 : Int) := (by omega)
  have q568 : 1 < (t558.length : Int) := dX
  obtain ⟨ad568, e568, hx568_0⟩ := Kd.at_string (Kd.R_reads' HO560.out).2.2 1 p568 q568
  obtain rfl : ad565 = ad568 := (by injection e568)
  (try simp only [show (1 : Int).toNat = 1 from rfl, Nat.reduceMul, Nat.reduceEqDiff, Go.Addr.add, ↓reduceIte] at hx568_0)
  have qi568 : (1 < t558.length) = True := eq_true (by omega)
  (try rw [show ((1 : Int)).toNat = 1 from rfl] at hx568_0)
  replace p568 := eq_true p568
  replace q568 := eq_true q568
  refine start_ (n := 42) (S := fun w' => w'.cell? ⟨gb557, 0, none⟩ = some (.slice Ao9 t551.length co9) ∧ w'.cell? ⟨gb557, 1, none⟩ = some (.slice Ao11 t554.length co11) ∧ w'.cell? ad565 = some (.string (rdOf ByteArray.empty t558 0)) ∧ w'.cell? ⟨ad565.block, ad565.off + 1, none⟩ = some (.string (rdOf ByteArray.empty t558 1))) (ds := []) #[ff,ff,ff,ff,ff,ff,ff,ff,ff,ff,ff,ff,ff,ff,ff,ff,ff,ff,ff,ff,ff,ff,ff,ff,ff,ff,ff,ff,ff,ff,ff,ff,ff,ff,ff,ff,ff,ff,ff,ff,ff,ff] (by kernel_rfl) rfl rfl ⟨cz20 BK557.out, cz21 BK557.out, hx565_0, hx568_0⟩ (fun hHeld => ?_); refine with_tabW laws_FnReports.tab6 laws_FnReports.bits6 (fun HT_ HW_ => ?_)
  generalize w14.drew = w42 at HO553 HO556 HO560 HO563 BK557 HB hx565_0 hx568_0 hHeld ⊢
  refine pX 0 22 (fl 42 1) rfl rfl HT_.out ?_
  refine pX 1 23 (fl 42 3) rfl rfl HT_.out ?_
  refine pX 2 24 (fl 42 7) rfl rfl HT_.out ?_
  refine pX 3 25 (fl 42 15) rfl rfl HT_.out ?_
  refine pX 4 26 (fl 42 31) rfl rfl HT_.out ?_
  refine pX 5 27 (fl 42 63) rfl rfl HT_.out ?_
  refine pX 6 28 (fl 42 127) rfl rfl HT_.out ?_
  refine pX 7 29 (fl 42 255) rfl rfl HT_.out ?_
  refine pX 8 30 (fl 42 511) rfl rfl HT_.out ?_
  refine pX 9 31 (fl 42 1023) rfl rfl HT_.out ?_
  refine pX 11 33 (fl 42 3071) rfl rfl HT_.out ?_
  refine tX4 10 32 (fl 42 4095) rfl rfl HT_.out HW_.out hHeld ?_
  refine tX4 12 34 (fl 42 8191) rfl rfl HT_.out HW_.out hHeld ?_
  refine pX 13 35 (fl 42 16383) rfl rfl HT_.out ?_
  refine tX4 17 39 (fl 42 147455) rfl rfl HT_.out HW_.out hHeld ?_
  refine one_ (i := 14) (N := some 36) #[tt,tt,tt,tt,tt,tt,tt,tt,tt,tt,tt,tt,tt,tt,tt,ff,ff,tt,ff,ff,ff,ff,ff,ff,ff,ff,ff,ff,ff,ff,ff,ff,ff,ff,ff,ff,ff,ff,ff,ff,ff,ff] rfl rfl (one_of HT_.out (by kernel_rfl)) (by decide) (fun K hK => ?_)
  refine goes_ Tryz.func9 (by kernel_rfl) rfl #[.int .i64 (t551.length : Int)] (by rfl) rfl rfl aX ?_
  with_reducible refine (impl_FormatInt.calls (t551.length : Int) t566 _ ?side1 A18.out).mono ?_
  (case side1 => exact PowTab.below HTAB.out (bX1 HB.out GE557.out))
  rintro e w44 ⟨rfl, hb⟩
  have HS2_ := (hb.cell (World.block_lt_of_cell? _ _ (hHeld.2.2.1))).trans (hHeld.2.2.1)
  have HS3_ := (hb.cell (World.block_lt_of_cell? _ _ (hHeld.2.2.2))).trans (hHeld.2.2.2)
  refine ⟨_, rfl, ?_⟩
  have n0_ := Aside0.mk (Kd.R_below (rX HO553.out) hb)
  have n1_ := Aside0.mk (Kd.R_below (rX HO556.out) hb)
  have n2_ := Aside0.mk (Kd.R_below (rX HO560.out) hb)
  have n3_ := Aside0.mk (Kd.R_below (rX HO563.out) hb)
  have n4_ := Aside0.mk (bbX BK557.out hb)
  have n5_ := Aside0.mk (below_step (bX1 HB.out GE557.out) hb)
  clear HO553 HO556 HO560 HO563 BK557 HB
  have HO553 := n0_
  have HO556 := n1_
  have HO560 := n2_
  have HO563 := n3_
  have BK557 := n4_
  have HB := n5_
  clear n0_ n1_ n2_ n3_ n4_ n5_
  (try clear hb)
  (try clear hb2)
  (try clear hk)
  (try clear hi)
  refine hK.out _ _ ⟨cz20 BK557.out, cz21 BK557.out, HS2_, HS3_⟩ (fun hHeld => ?_)
  clear hK K
  refine norm_ (a' := ?_) ?_ ?_
  rotate_left
  {
  show Act.put _ (some 36) _ = _
  simp only [Act.put, zA, zB, zC, i64_w, i32_w]
  rfl
  }
  refine pX 15 37 (fl 42 196607) rfl rfl HT_.out ?_
  refine pX 16 38 (fl 42 262143) rfl rfl HT_.out ?_
  refine one_ (i := 18) (N := some 40) #[tt,tt,tt,tt,tt,tt,tt,tt,tt,tt,tt,tt,tt,tt,tt,tt,tt,tt,tt,ff,ff,ff,ff,ff,ff,ff,ff,ff,ff,ff,ff,ff,ff,ff,ff,ff,ff,ff,ff,ff,ff,ff] rfl rfl (one_of HT_.out (by kernel_rfl)) (by decide) (fun K hK => ?_)
  refine goes_ Tryz.func10 (by kernel_rfl) rfl #[.agg #[.slice Ao9 t551.length co9, .slice Ao11 t554.length co11]] (by rfl) rfl rfl aX ?_
  with_reducible refine (impl_FormatSurface.calls k _ _ t551 _ _ t554 t567 _ ?side1 ?side2 ?side3 ?side4 ?side5 A21.out).mono ?_
  (case side1 => exact cX (Kd.R_reads' HO553.out).2.2)
  (case side2 => exact (Kd.R_reads' HO553.out).2.1)
  (case side3 => exact cX (Kd.R_reads' HO556.out).2.2)
  (case side4 => exact (Kd.R_reads' HO556.out).2.1)
  (case side5 => exact PowTab.below HTAB.out (bX1 HB.out GE557.out))
  rintro e w45 ⟨rfl, hb⟩
  have HS2_ := (hb.cell (World.block_lt_of_cell? _ _ (hHeld.2.2.1))).trans (hHeld.2.2.1)
  have HS3_ := (hb.cell (World.block_lt_of_cell? _ _ (hHeld.2.2.2))).trans (hHeld.2.2.2)
  refine ⟨_, rfl, ?_⟩
  have n0_ := Aside0.mk (Kd.R_below (rX HO553.out) hb)
  have n1_ := Aside0.mk (Kd.R_below (rX HO556.out) hb)
  have n2_ := Aside0.mk (Kd.R_below (rX HO560.out) hb)
  have n3_ := Aside0.mk (Kd.R_below (rX HO563.out) hb)
  have n4_ := Aside0.mk (bbX BK557.out hb)
  have n5_ := Aside0.mk (below_step (bX1 HB.out GE557.out) hb)
  clear HO553 HO556 HO560 HO563 BK557 HB
  have HO553 := n0_
  have HO556 := n1_
  have HO560 := n2_
  have HO563 := n3_
  have BK557 := n4_
  have HB := n5_
  clear n0_ n1_ n2_ n3_ n4_ n5_
  (try clear hb)
  (try clear hb2)
  (try clear hk)
  (try clear hi)
  refine hK.out _ _ ⟨cz20 BK557.out, cz21 BK557.out, HS2_, HS3_⟩ (fun hHeld => ?_)
  clear hK K
  refine norm_ (a' := ?_) ?_ ?_
  rotate_left
  {
  show Act.put _ (some 40) _ = _
  simp only [Act.put, zA, zB, zC, i64_w, i32_w]
  rfl
  }
  refine pX 19 41 (fl 42 1048575) rfl rfl HT_.out ?_
  refine pX 20 42 (fl 42 2097151) rfl rfl HT_.out ?_
  refine pX 21 43 (fl 42 4194303) rfl rfl HT_.out ?_
  refine pX 22 44 (fl 42 8388607) rfl rfl HT_.out ?_
  refine pX 23 45 (fl 42 16777215) rfl rfl HT_.out ?_
  refine pX 24 46 (fl 42 33554431) rfl rfl HT_.out ?_
  refine tX4 25 47 (fl 42 67108863) rfl rfl HT_.out HW_.out hHeld ?_
  refine tX4 26 48 (fl 42 134217727) rfl rfl HT_.out HW_.out hHeld ?_
  refine one_ (i := 27) (N := some 49) #[tt,tt,tt,tt,tt,tt,tt,tt,tt,tt,tt,tt,tt,tt,tt,tt,tt,tt,tt,tt,tt,tt,tt,tt,tt,tt,tt,tt,ff,ff,ff,ff,ff,ff,ff,ff,ff,ff,ff,ff,ff,ff] rfl rfl (one_of HT_.out (by kernel_rfl)) (by decide) (fun K hK => ?_)
  refine goes_ Tryz.func12 (by kernel_rfl) rfl #[.agg #[.slice Ao9 t551.length co9, .slice Ao11 t554.length co11]] (by rfl) rfl rfl aX ?_
  with_reducible refine (impl_AnglesOf.calls k _ _ t551 _ _ t554 t569 _ ?side1 ?side2 ?side3 ?side4 A25.out).mono ?_
  (case side1 => exact cX (Kd.R_reads' HO553.out).2.2)
  (case side2 => exact (Kd.R_reads' HO553.out).2.1)
  (case side3 => exact cX (Kd.R_reads' HO556.out).2.2)
  (case side4 => exact (Kd.R_reads' HO556.out).2.1)
  rintro e w46 ⟨v570, rfl, ho0, hb⟩
  have HS2_ := (hb.cell (World.block_lt_of_cell? _ _ (hHeld.2.2.1))).trans (hHeld.2.2.1)
  have HS3_ := (hb.cell (World.block_lt_of_cell? _ _ (hHeld.2.2.2))).trans (hHeld.2.2.2)
  refine ⟨_, rfl, ?_⟩
  have n0_ := Aside0.mk (Kd.R_elder' (rX HO553.out) (Kd.R_base ho0) hb)
  have n1_ := Aside0.mk (Kd.R_elder' (rX HO556.out) (Kd.R_base ho0) hb)
  have n2_ := Aside0.mk (Kd.R_below (rX HO560.out) hb)
  have n3_ := Aside0.mk (Kd.R_below (rX HO563.out) hb)
  have n4_ := Aside0.mk (Kd.R_lower (Kd.R_new' (Kd.R_new' ho0 (Kd.R_lt (rX HO553.out))) (Kd.R_lt (rX HO556.out))) (below_size (bX1 HB.out GE557.out)))
  have n5_ := Aside0.mk (bbX BK557.out hb)
  have n6_ := Aside0.mk (below_step (bX1 HB.out GE557.out) hb)
  clear HO553 HO556 HO560 HO563 BK557 HB
  have HO553 := n0_
  have HO556 := n1_
  have HO560 := n2_
  have HO563 := n3_
  have HO571 := n4_
  have BK557 := n5_
  have HB := n6_
  clear n0_ n1_ n2_ n3_ n4_ n5_ n6_
  (try clear hb)
  (try clear hb2)
  (try clear hk)
  (try clear hi)
  (try clear ho0)
  obtain ⟨Ao47, co47, eo47⟩ := Kd.R_slice HO571.out
  (first | subst eo47 | (injection eo47 with f1_ f2_ f3_; have f4_ := f1_.symm; have f5_ := f3_.symm; clear f1_ f2_ f3_; subst f4_; subst f5_))
  refine hK.out _ _ ⟨cz20 BK557.out, cz21 BK557.out, HS2_, HS3_⟩ (fun hHeld => ?_)
  clear hK K
  refine norm_ (a' := ?_) ?_ ?_
  rotate_left
  {
  show Act.put _ (some 49) _ = _
  simp only [Act.put, zA, zB, zC, i64_w, i32_w]
  rfl
  }
  refine one_ (i := 28) (N := some 50) #[tt,tt,tt,tt,tt,tt,tt,tt,tt,tt,tt,tt,tt,tt,tt,tt,tt,tt,tt,tt,tt,tt,tt,tt,tt,tt,tt,tt,tt,ff,ff,ff,ff,ff,ff,ff,ff,ff,ff,ff,ff,ff] rfl rfl (one_of HT_.out (by kernel_rfl)) (by decide) (fun K hK => ?_)
  refine goes_ Tryz.func11 (by kernel_rfl) rfl #[.slice Ao47 t569.length co47] (by rfl) rfl rfl aX ?_
  with_reducible refine (impl_FormatList.calls k _ _ t569 t572 _ ?side1 ?side2 ?side3 A26.out).mono ?_
  (case side1 => exact cX (Kd.R_reads' HO571.out).2.2)
  (case side2 => exact (Kd.R_reads' HO571.out).2.1)
  (case side3 => exact PowTab.below HTAB.out (bX1 HB.out GE557.out))
  rintro e w48 ⟨rfl, hb⟩
  have HS2_ := (hb.cell (World.block_lt_of_cell? _ _ (hHeld.2.2.1))).trans (hHeld.2.2.1)
  have HS3_ := (hb.cell (World.block_lt_of_cell? _ _ (hHeld.2.2.2))).trans (hHeld.2.2.2)
  refine ⟨_, rfl, ?_⟩
  have n0_ := Aside0.mk (Kd.R_below (rX HO553.out) hb)
  have n1_ := Aside0.mk (Kd.R_below (rX HO556.out) hb)
  have n2_ := Aside0.mk (Kd.R_below (rX HO560.out) hb)
  have n3_ := Aside0.mk (Kd.R_below (rX HO563.out) hb)
  have n4_ := Aside0.mk (Kd.R_below (rX HO571.out) hb)
  have n5_ := Aside0.mk (bbX BK557.out hb)
  have n6_ := Aside0.mk (below_step (bX1 HB.out GE557.out) hb)
  clear HO553 HO556 HO560 HO563 HO571 BK557 HB
  have HO553 := n0_
  have HO556 := n1_
  have HO560 := n2_
  have HO563 := n3_
  have HO571 := n4_
  have BK557 := n5_
  have HB := n6_
  clear n0_ n1_ n2_ n3_ n4_ n5_ n6_
  (try clear hb)
  (try clear hb2)
  (try clear hk)
  (try clear hi)
  refine hK.out _ _ ⟨cz20 BK557.out, cz21 BK557.out, HS2_, HS3_⟩ (fun hHeld => ?_)
  clear hK K
  refine norm_ (a' := ?_) ?_ ?_
  rotate_left
  {
  show Act.put _ (some 50) _ = _
  simp only [Act.put, zA, zB, zC, i64_w, i32_w]
  rfl
  }
  refine pX 29 51 (fl 42 1073741823) rfl rfl HT_.out ?_
  refine pX 30 52 (fl 42 2147483647) rfl rfl HT_.out ?_
  refine pX 31 53 (fl 42 4294967295) rfl rfl HT_.out ?_
  refine pX 32 54 (fl 42 8589934591) rfl rfl HT_.out ?_
  refine uX 33 55 (fl 42 17179869183) rfl rfl HT_.out ?_
  refine uX 34 56 (fl 42 34359738367) rfl rfl HT_.out ?_
  refine uX 35 57 (fl 42 68719476735) rfl rfl HT_.out ?_
  refine uX 36 58 (fl 42 137438953471) rfl rfl HT_.out ?_
  refine uX 37 59 (fl 42 274877906943) rfl rfl HT_.out ?_
  refine uX 38 60 (fl 42 549755813887) rfl rfl HT_.out ?_
  refine uX 39 61 (fl 42 1099511627775) rfl rfl HT_.out ?_
  refine uX 40 62 (fl 42 2199023255551) rfl rfl HT_.out ?_
  refine pX 41 63 (fl 42 4398046511103) rfl rfl HT_.out ?_
  refine done_ (done_of HT_.out (by kernel_rfl)) ?_
  try go_wp2
  go_meet
  case rel => exact ⟨_, (true), vX, H', ⟨by first | omega | exact Nat.le_refl _⟩, ⟨rX HO563.out⟩, ⟨rM HO553.out (fun _ hk => hk.1)⟩, ⟨rM HO556.out (fun _ hk => hk.1)⟩, ⟨kX BK557.out⟩, ⟨bX1 HB.out GE557.out⟩⟩
  }
  }
  {
  rw [if_neg c27] at H
  exact absurd H (by simp)
  }
  }
  {
  rw [if_neg c24] at H
  exact absurd H (by simp)
  }
  }
  {
  rw [if_neg c23] at H
  have c23b0 : ((rdOf ByteArray.empty t558 0).toList == ((((⟨#[115, 113, 117, 97, 114, 101, 115, 32]⟩ : ByteArray) ++ t566) ++ (⟨#[32]⟩ : ByteArray)) ++ t567).toList) = false := beq_eq_false_iff_ne.mpr c23
  have c23b1 : ((rdOf ByteArray.empty t558 0).toList != ((((⟨#[115, 113, 117, 97, 114, 101, 115, 32]⟩ : ByteArray) ++ t566) ++ (⟨#[32]⟩ : ByteArray)) ++ t567).toList) = true := bne_iff_ne.mpr c23
  have H' := Aside0.mk H
  clear H
  try go_wp2
  have n0_ := Aside0.mk (Kd.R_drew HO553.out)
  have n1_ := Aside0.mk (Kd.R_drew HO556.out)
  have n2_ := Aside0.mk (Kd.R_drew HO560.out)
  have n3_ := Aside0.mk (Kd.R_drew HO563.out)
  have n4_ := Aside0.mk (blk_drew BK557.out)
  have n5_ := Aside0.mk (below_drew1 HB.out)
  clear HO553 HO556 HO560 HO563 BK557 HB
  have HO553 := n0_
  have HO556 := n1_
  have HO560 := n2_
  have HO563 := n3_
  have BK557 := n4_
  have HB := n5_
  clear n0_ n1_ n2_ n3_ n4_ n5_
  obtain ⟨Ao50, co50, eo50⟩ := Kd.R_slice HO560.out
  (first | subst eo50 | (injection eo50 with f1_ f2_ f3_; have f4_ := f1_.symm; have f5_ := f3_.symm; clear f1_ f2_ f3_; subst f4_; subst f5_))
  have p565 : 0 ≤ (0 : Int) := (by omega)
  have q565 : 0 < (t558.length : Int) := dX
  obtain ⟨ad565, e565, hx565_0⟩ := Kd.at_string (Kd.R_reads' HO560.out).2.2 0 p565 q565
  cases e565
  have qi565 : (0 < t558.length) = True := eq_true (by omega)
  (try rw [show ((0 : Int)).toNat = 0 from rfl] at hx565_0)
  (try rw [Addr.add_zero'] at hx565_0)
  replace p565 := eq_true p565
  replace q565 := eq_true q565
  refine start_ (n := 42) (S := fun w' => w'.cell? ⟨gb557, 0, none⟩ = some (.slice Ao9 t551.length co9) ∧ w'.cell? ⟨gb557, 1, none⟩ = some (.slice Ao11 t554.length co11) ∧ w'.cell? ad565 = some (.string (rdOf ByteArray.empty t558 0))) (ds := []) #[ff,ff,ff,ff,ff,ff,ff,ff,ff,ff,ff,ff,ff,ff,ff,ff,ff,ff,ff,ff,ff,ff,ff,ff,ff,ff,ff,ff,ff,ff,ff,ff,ff,ff,ff,ff,ff,ff,ff,ff,ff,ff] (by kernel_rfl) rfl rfl ⟨cz20 BK557.out, cz21 BK557.out, hx565_0⟩ (fun hHeld => ?_); refine with_tabW laws_FnReports.tab6 laws_FnReports.bits6 (fun HT_ HW_ => ?_)
  generalize w14.drew = w49 at HO553 HO556 HO560 HO563 BK557 HB hx565_0 hHeld ⊢
  refine pX 0 22 (fl 42 1) rfl rfl HT_.out ?_
  refine pX 1 23 (fl 42 3) rfl rfl HT_.out ?_
  refine pX 2 24 (fl 42 7) rfl rfl HT_.out ?_
  refine pX 3 25 (fl 42 15) rfl rfl HT_.out ?_
  refine pX 4 26 (fl 42 31) rfl rfl HT_.out ?_
  refine pX 5 27 (fl 42 63) rfl rfl HT_.out ?_
  refine pX 6 28 (fl 42 127) rfl rfl HT_.out ?_
  refine pX 7 29 (fl 42 255) rfl rfl HT_.out ?_
  refine pX 8 30 (fl 42 511) rfl rfl HT_.out ?_
  refine pX 9 31 (fl 42 1023) rfl rfl HT_.out ?_
  refine pX 11 33 (fl 42 3071) rfl rfl HT_.out ?_
  refine tX3 10 32 (fl 42 4095) rfl rfl HT_.out HW_.out hHeld ?_
  refine tX3 12 34 (fl 42 8191) rfl rfl HT_.out HW_.out hHeld ?_
  refine pX 13 35 (fl 42 16383) rfl rfl HT_.out ?_
  refine tX3 17 39 (fl 42 147455) rfl rfl HT_.out HW_.out hHeld ?_
  refine one_ (i := 14) (N := some 36) #[tt,tt,tt,tt,tt,tt,tt,tt,tt,tt,tt,tt,tt,tt,tt,ff,ff,tt,ff,ff,ff,ff,ff,ff,ff,ff,ff,ff,ff,ff,ff,ff,ff,ff,ff,ff,ff,ff,ff,ff,ff,ff] rfl rfl (one_of HT_.out (by kernel_rfl)) (by decide) (fun K hK => ?_)
  refine goes_ Tryz.func9 (by kernel_rfl) rfl #[.int .i64 (t551.length : Int)] (by rfl) rfl rfl aX ?_
  with_reducible refine (impl_FormatInt.calls (t551.length : Int) t566 _ ?side1 A18.out).mono ?_
  (case side1 => exact PowTab.below HTAB.out (bX1 HB.out GE557.out))
  rintro e w51 ⟨rfl, hb⟩
  have HS2_ := (hb.cell (World.block_lt_of_cell? _ _ (hHeld.2.2))).trans (hHeld.2.2)
  refine ⟨_, rfl, ?_⟩
  have n0_ := Aside0.mk (Kd.R_below (rX HO553.out) hb)
  have n1_ := Aside0.mk (Kd.R_below (rX HO556.out) hb)
  have n2_ := Aside0.mk (Kd.R_below (rX HO560.out) hb)
  have n3_ := Aside0.mk (Kd.R_below (rX HO563.out) hb)
  have n4_ := Aside0.mk (bbX BK557.out hb)
  have n5_ := Aside0.mk (below_step (bX1 HB.out GE557.out) hb)
  clear HO553 HO556 HO560 HO563 BK557 HB
  have HO553 := n0_
  have HO556 := n1_
  have HO560 := n2_
  have HO563 := n3_
  have BK557 := n4_
  have HB := n5_
  clear n0_ n1_ n2_ n3_ n4_ n5_
  (try clear hb)
  (try clear hb2)
  (try clear hk)
  (try clear hi)
  refine hK.out _ _ ⟨cz20 BK557.out, cz21 BK557.out, HS2_⟩ (fun hHeld => ?_)
  clear hK K
  refine norm_ (a' := ?_) ?_ ?_
  rotate_left
  {
  show Act.put _ (some 36) _ = _
  simp only [Act.put, zA, zB, zC, i64_w, i32_w]
  rfl
  }
  refine pX 15 37 (fl 42 196607) rfl rfl HT_.out ?_
  refine pX 16 38 (fl 42 262143) rfl rfl HT_.out ?_
  refine one_ (i := 18) (N := some 40) #[tt,tt,tt,tt,tt,tt,tt,tt,tt,tt,tt,tt,tt,tt,tt,tt,tt,tt,tt,ff,ff,ff,ff,ff,ff,ff,ff,ff,ff,ff,ff,ff,ff,ff,ff,ff,ff,ff,ff,ff,ff,ff] rfl rfl (one_of HT_.out (by kernel_rfl)) (by decide) (fun K hK => ?_)
  refine goes_ Tryz.func10 (by kernel_rfl) rfl #[.agg #[.slice Ao9 t551.length co9, .slice Ao11 t554.length co11]] (by rfl) rfl rfl aX ?_
  with_reducible refine (impl_FormatSurface.calls k _ _ t551 _ _ t554 t567 _ ?side1 ?side2 ?side3 ?side4 ?side5 A21.out).mono ?_
  (case side1 => exact cX (Kd.R_reads' HO553.out).2.2)
  (case side2 => exact (Kd.R_reads' HO553.out).2.1)
  (case side3 => exact cX (Kd.R_reads' HO556.out).2.2)
  (case side4 => exact (Kd.R_reads' HO556.out).2.1)
  (case side5 => exact PowTab.below HTAB.out (bX1 HB.out GE557.out))
  rintro e w52 ⟨rfl, hb⟩
  have HS2_ := (hb.cell (World.block_lt_of_cell? _ _ (hHeld.2.2))).trans (hHeld.2.2)
  refine ⟨_, rfl, ?_⟩
  have n0_ := Aside0.mk (Kd.R_below (rX HO553.out) hb)
  have n1_ := Aside0.mk (Kd.R_below (rX HO556.out) hb)
  have n2_ := Aside0.mk (Kd.R_below (rX HO560.out) hb)
  have n3_ := Aside0.mk (Kd.R_below (rX HO563.out) hb)
  have n4_ := Aside0.mk (bbX BK557.out hb)
  have n5_ := Aside0.mk (below_step (bX1 HB.out GE557.out) hb)
  clear HO553 HO556 HO560 HO563 BK557 HB
  have HO553 := n0_
  have HO556 := n1_
  have HO560 := n2_
  have HO563 := n3_
  have BK557 := n4_
  have HB := n5_
  clear n0_ n1_ n2_ n3_ n4_ n5_
  (try clear hb)
  (try clear hb2)
  (try clear hk)
  (try clear hi)
  refine hK.out _ _ ⟨cz20 BK557.out, cz21 BK557.out, HS2_⟩ (fun hHeld => ?_)
  clear hK K
  refine norm_ (a' := ?_) ?_ ?_
  rotate_left
  {
  show Act.put _ (some 40) _ = _
  simp only [Act.put, zA, zB, zC, i64_w, i32_w]
  rfl
  }
  refine pX 19 41 (fl 42 1048575) rfl rfl HT_.out ?_
  refine pX 20 42 (fl 42 2097151) rfl rfl HT_.out ?_
  refine pX 21 43 (fl 42 4194303) rfl rfl HT_.out ?_
  refine pX 22 44 (fl 42 8388607) rfl rfl HT_.out ?_
  refine uX 23 45 (fl 42 16777215) rfl rfl HT_.out ?_
  refine uX 24 46 (fl 42 33554431) rfl rfl HT_.out ?_
  refine uX 25 47 (fl 42 67108863) rfl rfl HT_.out ?_
  refine uX 26 48 (fl 42 134217727) rfl rfl HT_.out ?_
  refine uX 27 49 (fl 42 268435455) rfl rfl HT_.out ?_
  refine uX 28 50 (fl 42 536870911) rfl rfl HT_.out ?_
  refine uX 29 51 (fl 42 1073741823) rfl rfl HT_.out ?_
  refine uX 30 52 (fl 42 2147483647) rfl rfl HT_.out ?_
  refine pX 31 53 (fl 42 4294967295) rfl rfl HT_.out ?_
  refine pX 32 54 (fl 42 8589934591) rfl rfl HT_.out ?_
  refine uX 33 55 (fl 42 17179869183) rfl rfl HT_.out ?_
  refine uX 34 56 (fl 42 34359738367) rfl rfl HT_.out ?_
  refine uX 35 57 (fl 42 68719476735) rfl rfl HT_.out ?_
  refine uX 36 58 (fl 42 137438953471) rfl rfl HT_.out ?_
  refine uX 37 59 (fl 42 274877906943) rfl rfl HT_.out ?_
  refine uX 38 60 (fl 42 549755813887) rfl rfl HT_.out ?_
  refine uX 39 61 (fl 42 1099511627775) rfl rfl HT_.out ?_
  refine uX 40 62 (fl 42 2199023255551) rfl rfl HT_.out ?_
  refine pX 41 63 (fl 42 4398046511103) rfl rfl HT_.out ?_
  refine done_ (done_of HT_.out (by kernel_rfl)) ?_
  try go_wp2
  go_meet
  case rel => exact ⟨_, (true), vX, H', ⟨by first | omega | exact Nat.le_refl _⟩, ⟨rX HO563.out⟩, ⟨rX HO553.out⟩, ⟨rX HO556.out⟩, ⟨kX BK557.out⟩, ⟨bX1 HB.out GE557.out⟩⟩
  }
  }
  {
  rw [if_neg c22] at H
  exact absurd H (by simp)
  }
  }
  {
  rw [if_neg c20] at H
  exact absurd H (by simp)
  }
  }
  {
  rw [if_neg c19] at H
  exact absurd H (by simp)
  }
  }
  {
  rw [if_neg c17] at H
  exact absurd H (by simp)
  }
  }
  {
  rw [if_neg c16] at H
  have c16b0 : ((t558.length : Int) == 4) = false := beq_eq_false_iff_ne.mpr c16
  have c16b1 : ((t558.length : Int) != 4) = true := bne_iff_ne.mpr c16
  (first | rw [c16b0] | (simp only [i64_w, i32_w]; rw [c16b0]) | skip)
  have H' := Aside0.mk H
  clear H
  try go_wp2
  have n0_ := Aside0.mk (Kd.R_drew HO553.out)
  have n1_ := Aside0.mk (Kd.R_drew HO556.out)
  have n2_ := Aside0.mk (Kd.R_drew HO560.out)
  have n3_ := Aside0.mk (Kd.R_drew HO563.out)
  have n4_ := Aside0.mk (blk_drew BK557.out)
  have n5_ := Aside0.mk (below_drew1 HB.out)
  clear HO553 HO556 HO560 HO563 BK557 HB
  have HO553 := n0_
  have HO556 := n1_
  have HO560 := n2_
  have HO563 := n3_
  have BK557 := n4_
  have HB := n5_
  clear n0_ n1_ n2_ n3_ n4_ n5_
  obtain ⟨Ao54, co54, eo54⟩ := Kd.R_slice HO560.out
  (first | subst eo54 | (injection eo54 with f1_ f2_ f3_; have f4_ := f1_.symm; have f5_ := f3_.symm; clear f1_ f2_ f3_; subst f4_; subst f5_))
  refine start_ (n := 42) (S := fun w' => True) (ds := []) #[ff,ff,ff,ff,ff,ff,ff,ff,ff,ff,ff,ff,ff,ff,ff,ff,ff,ff,ff,ff,ff,ff,ff,ff,ff,ff,ff,ff,ff,ff,ff,ff,ff,ff,ff,ff,ff,ff,ff,ff,ff,ff] (by kernel_rfl) rfl rfl trivial (fun hHeld => ?_); refine with_tabW laws_FnReports.tab6 laws_FnReports.bits6 (fun HT_ HW_ => ?_)
  generalize w14.drew = w53 at HO553 HO556 HO560 HO563 BK557 HB hHeld ⊢
  refine pX 0 22 (fl 42 1) rfl rfl HT_.out ?_
  refine pX 1 23 (fl 42 3) rfl rfl HT_.out ?_
  refine pX 2 24 (fl 42 7) rfl rfl HT_.out ?_
  refine pX 3 25 (fl 42 15) rfl rfl HT_.out ?_
  refine pX 4 26 (fl 42 31) rfl rfl HT_.out ?_
  refine pX 5 27 (fl 42 63) rfl rfl HT_.out ?_
  refine pX 6 28 (fl 42 127) rfl rfl HT_.out ?_
  refine pX 7 29 (fl 42 255) rfl rfl HT_.out ?_
  refine uX 8 30 (fl 42 511) rfl rfl HT_.out ?_
  refine uX 9 31 (fl 42 1023) rfl rfl HT_.out ?_
  refine uX 10 32 (fl 42 2047) rfl rfl HT_.out ?_
  refine uX 11 33 (fl 42 4095) rfl rfl HT_.out ?_
  refine uX 12 34 (fl 42 8191) rfl rfl HT_.out ?_
  refine uX 13 35 (fl 42 16383) rfl rfl HT_.out ?_
  refine uX 14 36 (fl 42 32767) rfl rfl HT_.out ?_
  refine uX 15 37 (fl 42 65535) rfl rfl HT_.out ?_
  refine uX 16 38 (fl 42 131071) rfl rfl HT_.out ?_
  refine uX 17 39 (fl 42 262143) rfl rfl HT_.out ?_
  refine uX 18 40 (fl 42 524287) rfl rfl HT_.out ?_
  refine uX 19 41 (fl 42 1048575) rfl rfl HT_.out ?_
  refine uX 20 42 (fl 42 2097151) rfl rfl HT_.out ?_
  refine pX 21 43 (fl 42 4194303) rfl rfl HT_.out ?_
  refine pX 22 44 (fl 42 8388607) rfl rfl HT_.out ?_
  refine uX 23 45 (fl 42 16777215) rfl rfl HT_.out ?_
  refine uX 24 46 (fl 42 33554431) rfl rfl HT_.out ?_
  refine uX 25 47 (fl 42 67108863) rfl rfl HT_.out ?_
  refine uX 26 48 (fl 42 134217727) rfl rfl HT_.out ?_
  refine uX 27 49 (fl 42 268435455) rfl rfl HT_.out ?_
  refine uX 28 50 (fl 42 536870911) rfl rfl HT_.out ?_
  refine uX 29 51 (fl 42 1073741823) rfl rfl HT_.out ?_
  refine uX 30 52 (fl 42 2147483647) rfl rfl HT_.out ?_
  refine pX 31 53 (fl 42 4294967295) rfl rfl HT_.out ?_
  refine pX 32 54 (fl 42 8589934591) rfl rfl HT_.out ?_
  refine uX 33 55 (fl 42 17179869183) rfl rfl HT_.out ?_
  refine uX 34 56 (fl 42 34359738367) rfl rfl HT_.out ?_
  refine uX 35 57 (fl 42 68719476735) rfl rfl HT_.out ?_
  refine uX 36 58 (fl 42 137438953471) rfl rfl HT_.out ?_
  refine uX 37 59 (fl 42 274877906943) rfl rfl HT_.out ?_
  refine uX 38 60 (fl 42 549755813887) rfl rfl HT_.out ?_
  refine uX 39 61 (fl 42 1099511627775) rfl rfl HT_.out ?_
  refine uX 40 62 (fl 42 2199023255551) rfl rfl HT_.out ?_
  refine pX 41 63 (fl 42 4398046511103) rfl rfl HT_.out ?_
  refine done_ (done_of HT_.out (by kernel_rfl)) ?_
  try go_wp2
  go_meet
  case rel => exact ⟨_, (true), vX, H', ⟨by first | omega | exact Nat.le_refl _⟩, ⟨rX HO563.out⟩, ⟨rX HO553.out⟩, ⟨rX HO556.out⟩, ⟨kX BK557.out⟩, ⟨bX1 HB.out GE557.out⟩⟩
  }
  }
  {
  replace c15 := Bool.eq_false_iff.mpr c15
  subst c15
  have H1 : (laws_FnReports.j0 k t561 true) = some r := by rw [if_neg (show ¬ (false = true) by decide)] at H; exact H
  clear H
  have H := H1
  clear H1
  have H' := Aside0.mk H
  clear H
  try go_wp2
  have n0_ := Aside0.mk (Kd.R_drew HO553.out)
  have n1_ := Aside0.mk (Kd.R_drew HO556.out)
  have n2_ := Aside0.mk (Kd.R_drew HO560.out)
  have n3_ := Aside0.mk (Kd.R_drew HO563.out)
  have n4_ := Aside0.mk (blk_drew BK557.out)
  have n5_ := Aside0.mk (below_drew1 HB.out)
  clear HO553 HO556 HO560 HO563 BK557 HB
  have HO553 := n0_
  have HO556 := n1_
  have HO560 := n2_
  have HO563 := n3_
  have BK557 := n4_
  have HB := n5_
  clear n0_ n1_ n2_ n3_ n4_ n5_
  refine start_ (n := 42) (S := fun w' => True) (ds := []) #[ff,ff,ff,ff,ff,ff,ff,ff,ff,ff,ff,ff,ff,ff,ff,ff,ff,ff,ff,ff,ff,ff,ff,ff,ff,ff,ff,ff,ff,ff,ff,ff,ff,ff,ff,ff,ff,ff,ff,ff,ff,ff] (by kernel_rfl) rfl rfl trivial (fun hHeld => ?_); refine with_tabW laws_FnReports.tab6 laws_FnReports.bits6 (fun HT_ HW_ => ?_)
  generalize w14.drew = w55 at HO553 HO556 HO560 HO563 BK557 HB hHeld ⊢
  refine pX 0 22 (fl 42 1) rfl rfl HT_.out ?_
  refine pX 1 23 (fl 42 3) rfl rfl HT_.out ?_
  refine pX 2 24 (fl 42 7) rfl rfl HT_.out ?_
  refine uX 3 25 (fl 42 15) rfl rfl HT_.out ?_
  refine uX 4 26 (fl 42 31) rfl rfl HT_.out ?_
  refine uX 5 27 (fl 42 63) rfl rfl HT_.out ?_
  refine pX 6 28 (fl 42 127) rfl rfl HT_.out ?_
  refine pX 7 29 (fl 42 255) rfl rfl HT_.out ?_
  refine uX 8 30 (fl 42 511) rfl rfl HT_.out ?_
  refine uX 9 31 (fl 42 1023) rfl rfl HT_.out ?_
  refine uX 10 32 (fl 42 2047) rfl rfl HT_.out ?_
  refine uX 11 33 (fl 42 4095) rfl rfl HT_.out ?_
  refine uX 12 34 (fl 42 8191) rfl rfl HT_.out ?_
  refine uX 13 35 (fl 42 16383) rfl rfl HT_.out ?_
  refine uX 14 36 (fl 42 32767) rfl rfl HT_.out ?_
  refine uX 15 37 (fl 42 65535) rfl rfl HT_.out ?_
  refine uX 16 38 (fl 42 131071) rfl rfl HT_.out ?_
  refine uX 17 39 (fl 42 262143) rfl rfl HT_.out ?_
  refine uX 18 40 (fl 42 524287) rfl rfl HT_.out ?_
  refine uX 19 41 (fl 42 1048575) rfl rfl HT_.out ?_
  refine uX 20 42 (fl 42 2097151) rfl rfl HT_.out ?_
  refine pX 21 43 (fl 42 4194303) rfl rfl HT_.out ?_
  refine pX 22 44 (fl 42 8388607) rfl rfl HT_.out ?_
  refine uX 23 45 (fl 42 16777215) rfl rfl HT_.out ?_
  refine uX 24 46 (fl 42 33554431) rfl rfl HT_.out ?_
  refine uX 25 47 (fl 42 67108863) rfl rfl HT_.out ?_
  refine uX 26 48 (fl 42 134217727) rfl rfl HT_.out ?_
  refine uX 27 49 (fl 42 268435455) rfl rfl HT_.out ?_
  refine uX 28 50 (fl 42 536870911) rfl rfl HT_.out ?_
  refine uX 29 51 (fl 42 1073741823) rfl rfl HT_.out ?_
  refine uX 30 52 (fl 42 2147483647) rfl rfl HT_.out ?_
  refine pX 31 53 (fl 42 4294967295) rfl rfl HT_.out ?_
  refine pX 32 54 (fl 42 8589934591) rfl rfl HT_.out ?_
  refine uX 33 55 (fl 42 17179869183) rfl rfl HT_.out ?_
  refine uX 34 56 (fl 42 34359738367) rfl rfl HT_.out ?_
  refine uX 35 57 (fl 42 68719476735) rfl rfl HT_.out ?_
  refine uX 36 58 (fl 42 137438953471) rfl rfl HT_.out ?_
  refine uX 37 59 (fl 42 274877906943) rfl rfl HT_.out ?_
  refine uX 38 60 (fl 42 549755813887) rfl rfl HT_.out ?_
  refine uX 39 61 (fl 42 1099511627775) rfl rfl HT_.out ?_
  refine uX 40 62 (fl 42 2199023255551) rfl rfl HT_.out ?_
  refine pX 41 63 (fl 42 4398046511103) rfl rfl HT_.out ?_
  refine done_ (done_of HT_.out (by kernel_rfl)) ?_
  try go_wp2
  go_meet
  case rel => exact ⟨_, (true), vX, H', ⟨by first | omega | exact Nat.le_refl _⟩, ⟨rX HO563.out⟩, ⟨rX HO553.out⟩, ⟨rX HO556.out⟩, ⟨kX BK557.out⟩, ⟨bX1 HB.out GE557.out⟩⟩
  }
 case rest =>
 clear HC6
 try clear c1
 try clear c2
 try clear p2
 try clear c15
 try clear c16
 try clear c16b0
 try clear c16b1
 try clear c17
 try clear c19
 try clear c20
 try clear c22
 obtain ⟨kq, x63_5, rfl, HA, HJ5, HO_5, HO_558000, HO_558001, BK557, HB⟩ := hcut
 cases kq with
 | zero => exact absurd HA.out (by simp [laws_FnReports.j0])
 | succ kj5 =>
 have H := HA.out
 clear HA
 simp only [laws_FnReports.j0] at H
 by_cases c56 : x63_5 = true
 {
 subst c56
 have H1 : (some false) = some r := by rw [if_pos rfl] at H; exact H
 clear H
 have H := H1
 clear H1
 exact absurd ((Option.some.inj H).trans HRT.out) (by decide)
 }
 {
 replace c56 := Bool.eq_false_iff.mpr c56
 subst c56
 have H1 : (laws_FnReports.l0 kj5 t561 (⟨#[]⟩ : ByteArray) t561 (t561.length : Int) 0) = some r := by rw [if_neg (show ¬ (false = true) by decide)] at H; exact H
 clear H
 have H := H1
 clear H1
 have H' := Aside0.mk H
 clear H
 obtain ⟨Ao57, co57, eo57⟩ := Kd.R_slice HO_5.out
 subst eo57
 go_wp2
 go_loopg [7, 66] kj5 (fun kq v7 v66 w' => ∃ (x7_2 : ByteArray) (x66_2 : Int), v7 = .string x7_2 ∧ v66 = .int .i64 x66_2 ∧ Aside0 (laws_FnReports.l0 kq t561 x7_2 t561 (t561.length : Int) x66_2 = some r) ∧ Aside0 (kq ≤ kj5) ∧ Aside0 (Kd.R k38 38 w' w.heap.size (fun _ => True) (.slice Ao57 t561.length co57) t561) ∧ Aside0 (Kd.R k38 38 w' w.heap.size (fun _ => True) (.slice Ao57 t561.length co57) t561) ∧ Aside0 (Kd.R (Kd.int .i64) 3 w' w.heap.size (fun k_ => some k_ ≠ ((.slice Ao11 t554.length co11) : Value).ownBlock) (.slice Ao9 t551.length co9) t551) ∧ Aside0 (Kd.R (Kd.int .i64) 3 w' w.heap.size (fun k_ => some k_ ≠ ((.slice Ao9 t551.length co9) : Value).ownBlock) (.slice Ao11 t554.length co11) t554) ∧ Aside0 (w'.heap[gb557]? = some (.cells #[(.slice Ao9 t551.length co9), (.slice Ao11 t554.length co11)] 25 (0, 0))) ∧ Aside0 (Below w.heap.size w w'))
 case atStart => exact ⟨((⟨#[]⟩ : ByteArray)), (0), vX, vX, H', ⟨Nat.le_refl _⟩, ⟨rX HO_5.out⟩, ⟨rX HO_5.out⟩, ⟨rX HO_558000.out⟩, ⟨rX HO_558001.out⟩, ⟨kX BK557.out⟩, ⟨bX1 HB.out GE557.out⟩⟩
 case round =>
 clear H'
 try clear c1
 try clear c2
 try clear p2
 try clear c5
 try clear c15
 try clear c16
 try clear c16b0
 try clear c16b1
 try clear c17
 try clear c19
 try clear c20
 try clear c22
 try clear c56
 try clear p2
 obtain ⟨x7_2, x66_2, rfl, rfl, HA, HK2, HO_5, HO_64, HO_558000, HO_558001, BK557, HB⟩ := hrel
 cases gk with
 | zero => exact absurd HA.out (by simp [laws_FnReports.l0])
 | succ k2 =>
 have H := HA.out
 clear HA
 simp only [laws_FnReports.l0] at H
 by_cases c58 : x66_2 < (t561.length : Int)
 {
 rw [if_pos c58] at H
 have c58b0 : decide (x66_2 < (t561.length : Int)) = true := decide_eq_true c58
 clear c58
 by_cases c59 : 0 ≤ x66_2
 {
 rw [if_pos c59] at H
 have c59b0 : decide (0 ≤ x66_2) = true := decide_eq_true c59
 clear c59
 by_cases c60 : x66_2 < (t561.length : Int)
 {
 rw [if_pos c60] at H
 have c60b0 : decide (x66_2 < (t561.length : Int)) = true := decide_eq_true c60
 clear c60
 by_cases c61 : x66_2 > 0
 {
 rw [if_pos c61] at H
 have c61b0 : decide (0 < x66_2) = true := decide_eq_true c61
 clear c61
 by_cases c62 : x7_2.size + 1 ≤ 9223372036854775807
 {
 rw [if_pos c62] at H
 have c62b0 := eq_true c62
 have c62b1 : decide (x7_2.size + 1 ≤ 9223372036854775807) = true := decide_eq_true c62
 try have c62b2 : (9223372036854775807 < x7_2.size + 1) = False := eq_false (Nat.not_lt.2 c62)
 replace H := Option.bind_eq_some_iff.mp H
 obtain ⟨t580, A630, H⟩ := H
 replace H : (if (x7_2 ++ (⟨#[32]⟩ : ByteArray)).size + t580.size ≤ 9223372036854775807 then (if ((x7_2 ++ (⟨#[32]⟩ : ByteArray)) ++ t580).size + 1 ≤ 9223372036854775807 then ((impl_FormatInt.f ((rd_T38 t561 x66_2).f1)).bind fun t581 => (if (((x7_2 ++ (⟨#[32]⟩ : ByteArray)) ++ t580) ++ (⟨#[120]⟩ : ByteArray)).size + t581.size ≤ 9223372036854775807 then (laws_FnReports.l0 k2 t561 ((((x7_2 ++ (⟨#[32]⟩ : ByteArray)) ++ t580) ++ (⟨#[120]⟩ : ByteArray)) ++ t581) t561 (t561.length : Int) (wrap64 (x66_2 + 1))) else (none))) else (none)) else (none)) = some r := H
 have A63 := Aside0.mk A630
 clear A630
 by_cases c64 : (x7_2 ++ (⟨#[32]⟩ : ByteArray)).size + t580.size ≤ 9223372036854775807
 {
 rw [if_pos c64] at H
 have c64b0 := eq_true c64
 have c64b1 : decide ((x7_2 ++ (⟨#[32]⟩ : ByteArray)).size + t580.size ≤ 9223372036854775807) = true := decide_eq_true c64
 try have c64b2 : (9223372036854775807 < (x7_2 ++ (⟨#[32]⟩ : ByteArray)).size + t580.size) = False := eq_false (Nat.not_lt.2 c64)
 try have c64b3 : (9223372036854775807 < x7_2.size + 1 + t580.size) = False := eq_false (Nat.not_lt.2 (by have hz_ := c64; simp only [ByteArray.size_append] at hz_; first | exact hz_ | omega))
 by_cases c65 : ((x7_2 ++ (⟨#[32]⟩ : ByteArray)) ++ t580).size + 1 ≤ 9223372036854775807
 {
 rw [if_pos c65] at H
 have c65b0 := eq_true c65
 have c65b1 : decide (((x7_2 ++ (⟨#[32]⟩ : ByteArray)) ++ t580).size + 1 ≤ 9223372036854775807) = true := decide_eq_true c65
 try have c65b2 : (9223372036854775807 < ((x7_2 ++ (⟨#[32]⟩ : ByteArray)) ++ t580).size + 1) = False := eq_false (Nat.not_lt.2 c65)
 try have c65b3 : (9223372036854775807 < x7_2.size + 1 + t580.size + 1) = False := eq_false (Nat.not_lt.2 (by have hz_ := c65; simp only [ByteArray.size_append] at hz_; first | exact hz_ | omega))
 replace H := Option.bind_eq_some_iff.mp H
 obtain ⟨t581, A660, H⟩ := H
 replace H : (if (((x7_2 ++ (⟨#[32]⟩ : ByteArray)) ++ t580) ++ (⟨#[120]⟩ : ByteArray)).size + t581.size ≤ 9223372036854775807 then (laws_FnReports.l0 k2 t561 ((((x7_2 ++ (⟨#[32]⟩ : ByteArray)) ++ t580) ++ (⟨#[120]⟩ : ByteArray)) ++ t581) t561 (t561.length : Int) (wrap64 (x66_2 + 1))) else (none)) = some r := H
 have A66 := Aside0.mk A660
 clear A660
 by_cases c67 : (((x7_2 ++ (⟨#[32]⟩ : ByteArray)) ++ t580) ++ (⟨#[120]⟩ : ByteArray)).size + t581.size ≤ 9223372036854775807
 {
 rw [if_pos c67] at H
 have c67b0 := eq_true c67
 have c67b1 : decide ((((x7_2 ++ (⟨#[32]⟩ : ByteArray)) ++ t580) ++ (⟨#[120]⟩ : ByteArray)).size + t581.size ≤ 9223372036854775807) = true := decide_eq_true c67
 try have c67b2 : (9223372036854775807 < (((x7_2 ++ (⟨#[32]⟩ : ByteArray)) ++ t580) ++ (⟨#[120]⟩ : ByteArray)).size + t581.size) = False := eq_false (Nat.not_lt.2 c67)
 try have c67b3 : (9223372036854775807 < x7_2.size + 1 + t580.size + 1 + t581.size) = False := eq_false (Nat.not_lt.2 (by have hz_ := c67; simp only [ByteArray.size_append] at hz_; first | exact hz_ | omega))
 have H' := Aside0.mk H
 clear H
 have p578 : 0 ≤ (x66_2 : Int) := dX
 have q578 : x66_2 < (t561.length : Int) := dX
 obtain ⟨ad578, e578, hx578_0, hx578_1⟩ := at_T38 (Kd.R_reads' HO_64.out).2.2 x66_2 p578 q578
 cases e578
 replace p578 := eq_true p578
 replace q578 := eq_true q578
 try go_wp2_with (first | ((with_reducible refine gate_dst (N := 9) rfl ?_); (try (refine gate_guard (by rfl) ?_; dsimp only)); refine box_event ?hg (N := 9) ?hd (cs := #[.int .i64 0, .int .i64 0]) (t := 38) ?hr ?_; (case hd => rfl); (case hg => rfl); (case hr => first | (go_simp; done) | (go_simp; rfl)); intro gb579 hg w68 hbox hb; have n0_ := Aside0.mk (Kd.R_below (Kd.R_elderB (rX HO_5.out) gb579 (Nat.le_of_eq hg.symm)) hb); have n1_ := Aside0.mk (Kd.R_below (Kd.R_elderB (rX HO_64.out) gb579 (Nat.le_of_eq hg.symm)) hb); have n2_ := Aside0.mk (Kd.R_below (rX HO_558000.out) hb); have n3_ := Aside0.mk (Kd.R_below (rX HO_558001.out) hb); have n4_ := Aside0.mk (bbX BK557.out hb); have n5_ := Aside0.mk (below_step (bX1 HB.out GE557.out) hb); have n6_ := Aside0.mk (hbox); have n7_ := Aside0.mk ((szX (below_size (bX1 HB.out GE557.out)) hg : w.heap.size ≤ gb579)); have n8_ := Aside0.mk ((szX (below_size (bX1 HB.out GE557.out)) hg : w.heap.size ≤ gb579)); have n9_ := Aside0.mk (neX BK557.out hg); have n10_ := Aside0.mk (nfX BK557.out hg); clear HO_5 HO_64 HO_558000 HO_558001 BK557 HB; have HO_5 := n0_; have HO_64 := n1_; have HO_558000 := n2_; have HO_558001 := n3_; have BK557 := n4_; have HB := n5_; have BK579 := n6_; have GW579 := n7_; have GE579 := n8_; have NB557_579 := n9_; have NB579_557 := n10_; clear n0_ n1_ n2_ n3_ n4_ n5_ n6_ n7_ n8_ n9_ n10_ hb hbox hg; have hnb69 := NB579_557.out; have hnc69 := NB557_579.out; have hcz70_0 := cz20 BK579.out; have hcz70_1 := cz21 BK579.out; have hfz70_0 := blk_frozen BK579.out 0; have hfz70_1 := blk_frozen BK579.out 1))
 have n0_ : Aside0 (Kd.R k38 38 ((w68.setCell ⟨gb579, 0, none⟩ (.int .i64 ((rd_T38 t561 x66_2).f0))).setCell ⟨gb579, 1, none⟩ (.int .i64 ((rd_T38 t561 x66_2).f1))) w.heap.size (fun k_ => k_ ≠ gb579) (.slice (some ad578) t561.length co57) t561) := ⟨by (with_reducible repeat (first|apply rA|apply rN|apply rD)); exact Kd.R_mono (Kd.R_far (p := ⟨gb579, 1, none⟩) (Kd.R_far (p := ⟨gb579, 0, none⟩) (Kd.R_mono HO_5.out (fun k_ hk => (⟨hk, hk.2⟩ : _ ∧ k_ ≠ gb579))) (fun _ hk => hk.2) (.int .i64 ((rd_T38 t561 x66_2).f0))) (fun _ hk => hk.2) (.int .i64 ((rd_T38 t561 x66_2).f1))) (fun _ hk => hk.1.2)⟩
 have n1_ : Aside0 (Kd.R k38 38 ((w68.setCell ⟨gb579, 0, none⟩ (.int .i64 ((rd_T38 t561 x66_2).f0))).setCell ⟨gb579, 1, none⟩ (.int .i64 ((rd_T38 t561 x66_2).f1))) w.heap.size (fun k_ => k_ ≠ gb579) (.slice (some ad578) t561.length co57) t561) := ⟨by (with_reducible repeat (first|apply rA|apply rN|apply rD)); exact Kd.R_mono (Kd.R_far (p := ⟨gb579, 1, none⟩) (Kd.R_far (p := ⟨gb579, 0, none⟩) (Kd.R_mono HO_64.out (fun k_ hk => (⟨hk, hk.2⟩ : _ ∧ k_ ≠ gb579))) (fun _ hk => hk.2) (.int .i64 ((rd_T38 t561 x66_2).f0))) (fun _ hk => hk.2) (.int .i64 ((rd_T38 t561 x66_2).f1))) (fun _ hk => hk.1.2)⟩
 have n2_ : Aside0 (Kd.R (Kd.int .i64) 3 ((w68.setCell ⟨gb579, 0, none⟩ (.int .i64 ((rd_T38 t561 x66_2).f0))).setCell ⟨gb579, 1, none⟩ (.int .i64 ((rd_T38 t561 x66_2).f1))) w.heap.size (fun k_ => some k_ ≠ (.slice Ao11 t554.length co11 : Value).ownBlock) (.slice Ao9 t551.length co9) t551) := ⟨by (with_reducible repeat (first|apply rA|apply rN|apply rD)); exact Kd.R_mono (Kd.R_far (p := ⟨gb579, 1, none⟩) (Kd.R_far (p := ⟨gb579, 0, none⟩) (Kd.R_types HO_558000.out BK579.out (by decide)) (fun _ hk => hk.2) (.int .i64 ((rd_T38 t561 x66_2).f0))) (fun _ hk => hk.2) (.int .i64 ((rd_T38 t561 x66_2).f1))) (fun _ hk => hk.1)⟩
 have n3_ : Aside0 (Kd.R (Kd.int .i64) 3 ((w68.setCell ⟨gb579, 0, none⟩ (.int .i64 ((rd_T38 t561 x66_2).f0))).setCell ⟨gb579, 1, none⟩ (.int .i64 ((rd_T38 t561 x66_2).f1))) w.heap.size (fun k_ => some k_ ≠ (.slice Ao9 t551.length co9 : Value).ownBlock) (.slice Ao11 t554.length co11) t554) := ⟨by (with_reducible repeat (first|apply rA|apply rN|apply rD)); exact Kd.R_mono (Kd.R_far (p := ⟨gb579, 1, none⟩) (Kd.R_far (p := ⟨gb579, 0, none⟩) (Kd.R_types HO_558001.out BK579.out (by decide)) (fun _ hk => hk.2) (.int .i64 ((rd_T38 t561 x66_2).f0))) (fun _ hk => hk.2) (.int .i64 ((rd_T38 t561 x66_2).f1))) (fun _ hk => hk.1)⟩
 have n4_ : Aside0 (((w68.setCell ⟨gb579, 0, none⟩ (.int .i64 ((rd_T38 t561 x66_2).f0))).setCell ⟨gb579, 1, none⟩ (.int .i64 ((rd_T38 t561 x66_2).f1))).heap[gb557]? = some (.cells #[.slice Ao9 t551.length co9, .slice Ao11 t554.length co11] 25 (0, 0))) := ⟨by (with_reducible repeat (first|refine kN ?_ _|refine kD ?_|refine kA ?_ _)); refine blk_far ?_ NB557_579.out _; (with_reducible repeat (first|refine kN ?_ _|refine kD ?_|refine kA ?_ _)); refine blk_far ?_ NB557_579.out _; (with_reducible repeat (first|refine kN ?_ _|refine kD ?_|refine kA ?_ _)); exact BK557.out⟩
 have n5_ : Aside0 (((w68.setCell ⟨gb579, 0, none⟩ (.int .i64 ((rd_T38 t561 x66_2).f0))).setCell ⟨gb579, 1, none⟩ (.int .i64 ((rd_T38 t561 x66_2).f1))).heap[gb579]? = some (.cells #[.int .i64 ((rd_T38 t561 x66_2).f0), .int .i64 ((rd_T38 t561 x66_2).f1)] 38 (0, 0))) := ⟨by (with_reducible repeat (first|refine kN ?_ _|refine kD ?_|refine kA ?_ _)); refine blk_put (cs := #[.int .i64 ((rd_T38 t561 x66_2).f0), .int .i64 0]) ?_ 1 _ rfl; (with_reducible repeat (first|refine kN ?_ _|refine kD ?_|refine kA ?_ _)); refine blk_put (cs := #[.int .i64 0, .int .i64 0]) ?_ 0 _ rfl; (with_reducible repeat (first|refine kN ?_ _|refine kD ?_|refine kA ?_ _)); exact BK579.out⟩
 have n6_ : Aside0 (Below w.heap.size w ((w68.setCell ⟨gb579, 0, none⟩ (.int .i64 ((rd_T38 t561 x66_2).f0))).setCell ⟨gb579, 1, none⟩ (.int .i64 ((rd_T38 t561 x66_2).f1)))) := ⟨bX2 HB.out GE557.out GE579.out⟩
 (try clear HO_5)
 (try clear HO_64)
 (try clear HO_558000)
 (try clear HO_558001)
 (try clear BK557)
 (try clear BK579)
 (try clear HB)
 generalize ((w68.setCell ⟨gb579, 0, none⟩ (.int .i64 ((rd_T38 t561 x66_2).f0))).setCell ⟨gb579, 1, none⟩ (.int .i64 ((rd_T38 t561 x66_2).f1))) = w71 at n0_ n1_ n2_ n3_ n4_ n5_ n6_ ⊢
 have HO_5 := n0_
 have HO_64 := n1_
 have HO_558000 := n2_
 have HO_558001 := n3_
 have BK557 := n4_
 have BK579 := n5_
 have HB := n6_
 clear n0_ n1_ n2_ n3_ n4_ n5_ n6_
 have n0_ := Aside0.mk (Kd.R_drew HO_5.out)
 have n1_ := Aside0.mk (Kd.R_drew HO_64.out)
 have n2_ := Aside0.mk (Kd.R_drew HO_558000.out)
 have n3_ := Aside0.mk (Kd.R_drew HO_558001.out)
 have n4_ := Aside0.mk (blk_drew BK557.out)
 have n5_ := Aside0.mk (blk_drew BK579.out)
 have n6_ := Aside0.mk (below_drew1 HB.out)
 clear HO_5 HO_64 HO_558000 HO_558001 BK557 BK579 HB
 have HO_5 := n0_
 have HO_64 := n1_
 have HO_558000 := n2_
 have HO_558001 := n3_
 have BK557 := n4_
 have BK579 := n5_
 have HB := n6_
 clear n0_ n1_ n2_ n3_ n4_ n5_ n6_
 refine start_ (n := 11) (S := fun w' => w'.cell? ⟨gb579, 0, none⟩ = some (.int .i64 ((rd_T38 t561 x66_2).f0)) ∧ w'.cell? ⟨gb579, 1, none⟩ = some (.int .i64 ((rd_T38 t561 x66_2).f1))) (ds := []) #[ff,ff,ff,ff,ff,ff,ff,ff,ff,ff,ff] (by kernel_rfl) rfl rfl ⟨cz20 BK579.out, cz21 BK579.out⟩ (fun hHeld => ?_); refine with_tabW laws_FnReports.tab14 laws_FnReports.bits14 (fun HT_ HW_ => ?_)
 generalize w71.drew = w72 at HO_5 HO_64 HO_558000 HO_558001 BK557 BK579 HB hHeld ⊢
 refine pX 0 75 (fl 11 1) rfl rfl HT_.out ?_
 refine pX 1 76 (fl 11 3) rfl rfl HT_.out ?_
 refine pX 6 81 (fl 11 67) rfl rfl HT_.out ?_
 refine tX2 2 77 (fl 11 71) rfl rfl HT_.out HW_.out hHeld ?_
 refine tX2 7 82 (fl 11 199) rfl rfl HT_.out HW_.out hHeld ?_
 refine one_ (i := 3) (N := some 78) #[tt,tt,tt,tt,ff,ff,tt,tt,ff,ff,ff] rfl rfl (one_of HT_.out (by kernel_rfl)) (by decide) (fun K hK => ?_)
 refine goes_ Tryz.func9 (by kernel_rfl) rfl #[.int .i64 ((rd_T38 t561 x66_2).f0)] (by rfl) rfl rfl aX ?_
 with_reducible refine (impl_FormatInt.calls ((rd_T38 t561 x66_2).f0) t580 _ ?side1 A63.out).mono ?_
 (case side1 => exact PowTab.below HTAB.out (bX2 HB.out GE557.out GE579.out))
 rintro e w73 ⟨rfl, hb⟩
 refine ⟨_, rfl, ?_⟩
 have n0_ := Aside0.mk (Kd.R_below (rX HO_5.out) hb)
 have n1_ := Aside0.mk (Kd.R_below (rX HO_64.out) hb)
 have n2_ := Aside0.mk (Kd.R_below (rX HO_558000.out) hb)
 have n3_ := Aside0.mk (Kd.R_below (rX HO_558001.out) hb)
 have n4_ := Aside0.mk (bbX BK557.out hb)
 have n5_ := Aside0.mk (bbX BK579.out hb)
 have n6_ := Aside0.mk (below_step (bX2 HB.out GE557.out GE579.out) hb)
 clear HO_5 HO_64 HO_558000 HO_558001 BK557 BK579 HB
 have HO_5 := n0_
 have HO_64 := n1_
 have HO_558000 := n2_
 have HO_558001 := n3_
 have BK557 := n4_
 have BK579 := n5_
 have HB := n6_
 clear n0_ n1_ n2_ n3_ n4_ n5_ n6_
 (try clear hb)
 (try clear hb2)
 (try clear hk)
 (try clear hi)
 refine hK.out _ _ ⟨cz20 BK579.out, cz21 BK579.out⟩ (fun hHeld => ?_)
 clear hK K
 refine norm_ (a' := ?_) ?_ ?_
 rotate_left
 {
 show Act.put _ (some 78) _ = _
 simp only [Act.put, zA, zB, zC, i64_w, i32_w]
 rfl
 }
 refine pX 4 79 (fl 11 223) rfl rfl HT_.out ?_
 refine pX 5 80 (fl 11 255) rfl rfl HT_.out ?_
 refine one_ (i := 8) (N := some 83) #[tt,tt,tt,tt,tt,tt,tt,tt,tt,ff,ff] rfl rfl (one_of HT_.out (by kernel_rfl)) (by decide) (fun K hK => ?_)
 refine goes_ Tryz.func9 (by kernel_rfl) rfl #[.int .i64 ((rd_T38 t561 x66_2).f1)] (by rfl) rfl rfl aX ?_
 with_reducible refine (impl_FormatInt.calls ((rd_T38 t561 x66_2).f1) t581 _ ?side1 A66.out).mono ?_
 (case side1 => exact PowTab.below HTAB.out (bX2 HB.out GE557.out GE579.out))
 rintro e w74 ⟨rfl, hb⟩
 refine ⟨_, rfl, ?_⟩
 have n0_ := Aside0.mk (Kd.R_below (rX HO_5.out) hb)
 have n1_ := Aside0.mk (Kd.R_below (rX HO_64.out) hb)
 have n2_ := Aside0.mk (Kd.R_below (rX HO_558000.out) hb)
 have n3_ := Aside0.mk (Kd.R_below (rX HO_558001.out) hb)
 have n4_ := Aside0.mk (bbX BK557.out hb)
 have n5_ := Aside0.mk (bbX BK579.out hb)
 have n6_ := Aside0.mk (below_step (bX2 HB.out GE557.out GE579.out) hb)
 clear HO_5 HO_64 HO_558000 HO_558001 BK557 BK579 HB
 have HO_5 := n0_
 have HO_64 := n1_
 have HO_558000 := n2_
 have HO_558001 := n3_
 have BK557 := n4_
 have BK579 := n5_
 have HB := n6_
 clear n0_ n1_ n2_ n3_ n4_ n5_ n6_
 (try clear hb)
 (try clear hb2)
 (try clear hk)
 (try clear hi)
 refine hK.out _ _ ⟨cz20 BK579.out, cz21 BK579.out⟩ (fun hHeld => ?_)
 clear hK K
 refine norm_ (a' := ?_) ?_ ?_
 rotate_left
 {
 show Act.put _ (some 83) _ = _
 simp only [Act.put, zA, zB, zC, i64_w, i32_w]
 rfl
 }
 refine pX 9 84 (fl 11 1023) rfl rfl HT_.out ?_
 refine pX 10 7 (fl 11 2047) rfl rfl HT_.out ?_
 refine done_ (done_of HT_.out (by kernel_rfl)) ?_
 try go_wp2
 go_roundg k2
 case measure => have := HJ5.out; have := HK2.out; omega
 case rel => exact ⟨((((x7_2 ++ (⟨#[32]⟩ : ByteArray)) ++ t580) ++ (⟨#[120]⟩ : ByteArray)) ++ t581), (wrap64 (x66_2 + 1)), vX, vX, H', ⟨by have := HJ5.out; have := HK2.out; omega⟩, ⟨rM HO_5.out (fun _ hk => trivial)⟩, ⟨rM HO_64.out (fun _ hk => trivial)⟩, ⟨rX HO_558000.out⟩, ⟨rX HO_558001.out⟩, ⟨kX BK557.out⟩, ⟨bX2 HB.out GE557.out GE579.out⟩⟩
 }
 {
 rw [if_neg c67] at H
 exact absurd H (by simp)
 }
 }
 {
 rw [if_neg c65] at H
 exact absurd H (by simp)
 }
 }
 {
 rw [if_neg c64] at H
 exact absurd H (by simp)
 }
 }
 {
 rw [if_neg c62] at H
 exact absurd H (by simp)
 }
 }
 {
 rw [if_neg c61] at H
 have c61b0 : decide (0 < x66_2) = false := decide_eq_false c61
 clear c61
 replace H := Option.bind_eq_some_iff.mp H
 obtain ⟨t582, A750, H⟩ := H
 replace H : (if x7_2.size + t582.size ≤ 9223372036854775807 then (if (x7_2 ++ t582).size + 1 ≤ 9223372036854775807 then ((impl_FormatInt.f ((rd_T38 t561 x66_2).f1)).bind fun t583 => (if ((x7_2 ++ t582) ++ (⟨#[120]⟩ : ByteArray)).size + t583.size ≤ 9223372036854775807 then (laws_FnReports.l0 k2 t561 (((x7_2 ++ t582) ++ (⟨#[120]⟩ : ByteArray)) ++ t583) t561 (t561.length : Int) (wrap64 (x66_2 + 1))) else (none))) else (none)) else (none)) = some r := H
 have A75 := Aside0.mk A750
 clear A750
 by_cases c76 : x7_2.size + t582.size ≤ 9223372036854775807
 {
 rw [if_pos c76] at H
 have c76b0 := eq_true c76
 have c76b1 : decide (x7_2.size + t582.size ≤ 9223372036854775807) = true := decide_eq_true c76
 try have c76b2 : (9223372036854775807 < x7_2.size + t582.size) = False := eq_false (Nat.not_lt.2 c76)
 by_cases c77 : (x7_2 ++ t582).size + 1 ≤ 9223372036854775807
 {
 rw [if_pos c77] at H
 have c77b0 := eq_true c77
 have c77b1 : decide ((x7_2 ++ t582).size + 1 ≤ 9223372036854775807) = true := decide_eq_true c77
 try have c77b2 : (9223372036854775807 < (x7_2 ++ t582).size + 1) = False := eq_false (Nat.not_lt.2 c77)
 try have c77b3 : (9223372036854775807 < x7_2.size + t582.size + 1) = False := eq_false (Nat.not_lt.2 (by have hz_ := c77; simp only [ByteArray.size_append] at hz_; first | exact hz_ | omega))
 replace H := Option.bind_eq_some_iff.mp H
 obtain ⟨t583, A780, H⟩ := H
 replace H : (if ((x7_2 ++ t582) ++ (⟨#[120]⟩ : ByteArray)).size + t583.size ≤ 9223372036854775807 then (laws_FnReports.l0 k2 t561 (((x7_2 ++ t582) ++ (⟨#[120]⟩ : ByteArray)) ++ t583) t561 (t561.length : Int) (wrap64 (x66_2 + 1))) else (none)) = some r := H
 have A78 := Aside0.mk A780
 clear A780
 by_cases c79 : ((x7_2 ++ t582) ++ (⟨#[120]⟩ : ByteArray)).size + t583.size ≤ 9223372036854775807
 {
 rw [if_pos c79] at H
 have c79b0 := eq_true c79
 have c79b1 : decide (((x7_2 ++ t582) ++ (⟨#[120]⟩ : ByteArray)).size + t583.size ≤ 9223372036854775807) = true := decide_eq_true c79
 try have c79b2 : (9223372036854775807 < ((x7_2 ++ t582) ++ (⟨#[120]⟩ : ByteArray)).size + t583.size) = False := eq_false (Nat.not_lt.2 c79)
 try have c79b3 : (9223372036854775807 < x7_2.size + t582.size + 1 + t583.size) = False := eq_false (Nat.not_lt.2 (by have hz_ := c79; simp only [ByteArray.size_append] at hz_; first | exact hz_ | omega))
 have H' := Aside0.mk H
 clear H
 have p578 : 0 ≤ (x66_2 : Int) := dX
 have q578 : x66_2 < (t561.length : Int) := dX
 obtain ⟨ad578, e578, hx578_0, hx578_1⟩ := at_T38 (Kd.R_reads' HO_64.out).2.2 x66_2 p578 q578
 cases e578
 replace p578 := eq_true p578
 replace q578 := eq_true q578
 try go_wp2_with (first | ((with_reducible refine gate_dst (N := 9) rfl ?_); (try (refine gate_guard (by rfl) ?_; dsimp only)); refine box_event ?hg (N := 9) ?hd (cs := #[.int .i64 0, .int .i64 0]) (t := 38) ?hr ?_; (case hd => rfl); (case hg => rfl); (case hr => first | (go_simp; done) | (go_simp; rfl)); intro gb579 hg w80 hbox hb; have n0_ := Aside0.mk (Kd.R_below (Kd.R_elderB (rX HO_5.out) gb579 (Nat.le_of_eq hg.symm)) hb); have n1_ := Aside0.mk (Kd.R_below (Kd.R_elderB (rX HO_64.out) gb579 (Nat.le_of_eq hg.symm)) hb); have n2_ := Aside0.mk (Kd.R_below (rX HO_558000.out) hb); have n3_ := Aside0.mk (Kd.R_below (rX HO_558001.out) hb); have n4_ := Aside0.mk (bbX BK557.out hb); have n5_ := Aside0.mk (below_step (bX1 HB.out GE557.out) hb); have n6_ := Aside0.mk (hbox); have n7_ := Aside0.mk ((szX (below_size (bX1 HB.out GE557.out)) hg : w.heap.size ≤ gb579)); have n8_ := Aside0.mk ((szX (below_size (bX1 HB.out GE557.out)) hg : w.heap.size ≤ gb579)); have n9_ := Aside0.mk (neX BK557.out hg); have n10_ := Aside0.mk (nfX BK557.out hg); clear HO_5 HO_64 HO_558000 HO_558001 BK557 HB; have HO_5 := n0_; have HO_64 := n1_; have HO_558000 := n2_; have HO_558001 := n3_; have BK557 := n4_; have HB := n5_; have BK579 := n6_; have GW579 := n7_; have GE579 := n8_; have NB557_579 := n9_; have NB579_557 := n10_; clear n0_ n1_ n2_ n3_ n4_ n5_ n6_ n7_ n8_ n9_ n10_ hb hbox hg; have hnb81 := NB579_557.out; have hnc81 := NB557_579.out; have hcz82_0 := cz20 BK579.out; have hcz82_1 := cz21 BK579.out; have hfz82_0 := blk_frozen BK579.out 0; have hfz82_1 := blk_frozen BK579.out 1))
 have n0_ : Aside0 (Kd.R k38 38 ((w80.setCell ⟨gb579, 0, none⟩ (.int .i64 ((rd_T38 t561 x66_2).f0))).setCell ⟨gb579, 1, none⟩ (.int .i64 ((rd_T38 t561 x66_2).f1))) w.heap.size (fun k_ => k_ ≠ gb579) (.slice (some ad578) t561.length co57) t561) := ⟨by (with_reducible repeat (first|apply rA|apply rN|apply rD)); exact Kd.R_mono (Kd.R_far (p := ⟨gb579, 1, none⟩) (Kd.R_far (p := ⟨gb579, 0, none⟩) (Kd.R_mono HO_5.out (fun k_ hk => (⟨hk, hk.2⟩ : _ ∧ k_ ≠ gb579))) (fun _ hk => hk.2) (.int .i64 ((rd_T38 t561 x66_2).f0))) (fun _ hk => hk.2) (.int .i64 ((rd_T38 t561 x66_2).f1))) (fun _ hk => hk.1.2)⟩
 have n1_ : Aside0 (Kd.R k38 38 ((w80.setCell ⟨gb579, 0, none⟩ (.int .i64 ((rd_T38 t561 x66_2).f0))).setCell ⟨gb579, 1, none⟩ (.int .i64 ((rd_T38 t561 x66_2).f1))) w.heap.size (fun k_ => k_ ≠ gb579) (.slice (some ad578) t561.length co57) t561) := ⟨by (with_reducible repeat (first|apply rA|apply rN|apply rD)); exact Kd.R_mono (Kd.R_far (p := ⟨gb579, 1, none⟩) (Kd.R_far (p := ⟨gb579, 0, none⟩) (Kd.R_mono HO_64.out (fun k_ hk => (⟨hk, hk.2⟩ : _ ∧ k_ ≠ gb579))) (fun _ hk => hk.2) (.int .i64 ((rd_T38 t561 x66_2).f0))) (fun _ hk => hk.2) (.int .i64 ((rd_T38 t561 x66_2).f1))) (fun _ hk => hk.1.2)⟩
 have n2_ : Aside0 (Kd.R (Kd.int .i64) 3 ((w80.setCell ⟨gb579, 0, none⟩ (.int .i64 ((rd_T38 t561 x66_2).f0))).setCell ⟨gb579, 1, none⟩ (.int .i64 ((rd_T38 t561 x66_2).f1))) w.heap.size (fun k_ => some k_ ≠ (.slice Ao11 t554.length co11 : Value).ownBlock) (.slice Ao9 t551.length co9) t551) := ⟨by (with_reducible repeat (first|apply rA|apply rN|apply rD)); exact Kd.R_mono (Kd.R_far (p := ⟨gb579, 1, none⟩) (Kd.R_far (p := ⟨gb579, 0, none⟩) (Kd.R_types HO_558000.out BK579.out (by decide)) (fun _ hk => hk.2) (.int .i64 ((rd_T38 t561 x66_2).f0))) (fun _ hk => hk.2) (.int .i64 ((rd_T38 t561 x66_2).f1))) (fun _ hk => hk.1)⟩
 have n3_ : Aside0 (Kd.R (Kd.int .i64) 3 ((w80.setCell ⟨gb579, 0, none⟩ (.int .i64 ((rd_T38 t561 x66_2).f0))).setCell ⟨gb579, 1, none⟩ (.int .i64 ((rd_T38 t561 x66_2).f1))) w.heap.size (fun k_ => some k_ ≠ (.slice Ao9 t551.length co9 : Value).ownBlock) (.slice Ao11 t554.length co11) t554) := ⟨by (with_reducible repeat (first|apply rA|apply rN|apply rD)); exact Kd.R_mono (Kd.R_far (p := ⟨gb579, 1, none⟩) (Kd.R_far (p := ⟨gb579, 0, none⟩) (Kd.R_types HO_558001.out BK579.out (by decide)) (fun _ hk => hk.2) (.int .i64 ((rd_T38 t561 x66_2).f0))) (fun _ hk => hk.2) (.int .i64 ((rd_T38 t561 x66_2).f1))) (fun _ hk => hk.1)⟩
 have n4_ : Aside0 (((w80.setCell ⟨gb579, 0, none⟩ (.int .i64 ((rd_T38 t561 x66_2).f0))).setCell ⟨gb579, 1, none⟩ (.int .i64 ((rd_T38 t561 x66_2).f1))).heap[gb557]? = some (.cells #[.slice Ao9 t551.length co9, .slice Ao11 t554.length co11] 25 (0, 0))) := ⟨by (with_reducible repeat (first|refine kN ?_ _|refine kD ?_|refine kA ?_ _)); refine blk_far ?_ NB557_579.out _; (with_reducible repeat (first|refine kN ?_ _|refine kD ?_|refine kA ?_ _)); refine blk_far ?_ NB557_579.out _; (with_reducible repeat (first|refine kN ?_ _|refine kD ?_|refine kA ?_ _)); exact BK557.out⟩
 have n5_ : Aside0 (((w80.setCell ⟨gb579, 0, none⟩ (.int .i64 ((rd_T38 t561 x66_2).f0))).setCell ⟨gb579, 1, none⟩ (.int .i64 ((rd_T38 t561 x66_2).f1))).heap[gb579]? = some (.cells #[.int .i64 ((rd_T38 t561 x66_2).f0), .int .i64 ((rd_T38 t561 x66_2).f1)] 38 (0, 0))) := ⟨by (with_reducible repeat (first|refine kN ?_ _|refine kD ?_|refine kA ?_ _)); refine blk_put (cs := #[.int .i64 ((rd_T38 t561 x66_2).f0), .int .i64 0]) ?_ 1 _ rfl; (with_reducible repeat (first|refine kN ?_ _|refine kD ?_|refine kA ?_ _)); refine blk_put (cs := #[.int .i64 0, .int .i64 0]) ?_ 0 _ rfl; (with_reducible repeat (first|refine kN ?_ _|refine kD ?_|refine kA ?_ _)); exact BK579.out⟩
 have n6_ : Aside0 (Below w.heap.size w ((w80.setCell ⟨gb579, 0, none⟩ (.int .i64 ((rd_T38 t561 x66_2).f0))).setCell ⟨gb579, 1, none⟩ (.int .i64 ((rd_T38 t561 x66_2).f1)))) := ⟨bX2 HB.out GE557.out GE579.out⟩
 (try clear HO_5)
 (try clear HO_64)
 (try clear HO_558000)
 (try clear HO_558001)
 (try clear BK557)
 (try clear BK579)
 (try clear HB)
 generalize ((w80.setCell ⟨gb579, 0, none⟩ (.int .i64 ((rd_T38 t561 x66_2).f0))).setCell ⟨gb579, 1, none⟩ (.int .i64 ((rd_T38 t561 x66_2).f1))) = w83 at n0_ n1_ n2_ n3_ n4_ n5_ n6_ ⊢
 have HO_5 := n0_
 have HO_64 := n1_
 have HO_558000 := n2_
 have HO_558001 := n3_
 have BK557 := n4_
 have BK579 := n5_
 have HB := n6_
 clear n0_ n1_ n2_ n3_ n4_ n5_ n6_
 have n0_ := Aside0.mk (Kd.R_drew HO_5.out)
 have n1_ := Aside0.mk (Kd.R_drew HO_64.out)
 have n2_ := Aside0.mk (Kd.R_drew HO_558000.out)
 have n3_ := Aside0.mk (Kd.R_drew HO_558001.out)
 have n4_ := Aside0.mk (blk_drew BK557.out)
 have n5_ := Aside0.mk (blk_drew BK579.out)
 have n6_ := Aside0.mk (below_drew1 HB.out)
 clear HO_5 HO_64 HO_558000 HO_558001 BK557 BK579 HB
 have HO_5 := n0_
 have HO_64 := n1_
 have HO_558000 := n2_
 have HO_558001 := n3_
 have BK557 := n4_
 have BK579 := n5_
 have HB := n6_
 clear n0_ n1_ n2_ n3_ n4_ n5_ n6_
 refine start_ (n := 11) (S := fun w' => w'.cell? ⟨gb579, 0, none⟩ = some (.int .i64 ((rd_T38 t561 x66_2).f0)) ∧ w'.cell? ⟨gb579, 1, none⟩ = some (.int .i64 ((rd_T38 t561 x66_2).f1))) (ds := []) #[ff,ff,ff,ff,ff,ff,ff,ff,ff,ff,ff] (by kernel_rfl) rfl rfl ⟨cz20 BK579.out, cz21 BK579.out⟩ (fun hHeld => ?_); refine with_tabW laws_FnReports.tab14 laws_FnReports.bits14 (fun HT_ HW_ => ?_)
 generalize w83.drew = w84 at HO_5 HO_64 HO_558000 HO_558001 BK557 BK579 HB hHeld ⊢
 refine pX 0 75 (fl 11 1) rfl rfl HT_.out ?_
 refine pX 1 76 (fl 11 3) rfl rfl HT_.out ?_
 refine pX 6 81 (fl 11 67) rfl rfl HT_.out ?_
 refine tX2 2 77 (fl 11 71) rfl rfl HT_.out HW_.out hHeld ?_
 refine tX2 7 82 (fl 11 199) rfl rfl HT_.out HW_.out hHeld ?_
 refine one_ (i := 3) (N := some 78) #[tt,tt,tt,tt,ff,ff,tt,tt,ff,ff,ff] rfl rfl (one_of HT_.out (by kernel_rfl)) (by decide) (fun K hK => ?_)
 refine goes_ Tryz.func9 (by kernel_rfl) rfl #[.int .i64 ((rd_T38 t561 x66_2).f0)] (by rfl) rfl rfl aX ?_
 with_reducible refine (impl_FormatInt.calls ((rd_T38 t561 x66_2).f0) t582 _ ?side1 A75.out).mono ?_
 (case side1 => exact PowTab.below HTAB.out (bX2 HB.out GE557.out GE579.out))
 rintro e w85 ⟨rfl, hb⟩
 refine ⟨_, rfl, ?_⟩
 have n0_ := Aside0.mk (Kd.R_below (rX HO_5.out) hb)
 have n1_ := Aside0.mk (Kd.R_below (rX HO_64.out) hb)
 have n2_ := Aside0.mk (Kd.R_below (rX HO_558000.out) hb)
 have n3_ := Aside0.mk (Kd.R_below (rX HO_558001.out) hb)
 have n4_ := Aside0.mk (bbX BK557.out hb)
 have n5_ := Aside0.mk (bbX BK579.out hb)
 have n6_ := Aside0.mk (below_step (bX2 HB.out GE557.out GE579.out) hb)
 clear HO_5 HO_64 HO_558000 HO_558001 BK557 BK579 HB
 have HO_5 := n0_
 have HO_64 := n1_
 have HO_558000 := n2_
 have HO_558001 := n3_
 have BK557 := n4_
 have BK579 := n5_
 have HB := n6_
 clear n0_ n1_ n2_ n3_ n4_ n5_ n6_
 (try clear hb)
 (try clear hb2)
 (try clear hk)
 (try clear hi)
 refine hK.out _ _ ⟨cz20 BK579.out, cz21 BK579.out⟩ (fun hHeld => ?_)
 clear hK K
 refine norm_ (a' := ?_) ?_ ?_
 rotate_left
 {
 show Act.put _ (some 78) _ = _
 simp only [Act.put, zA, zB, zC, i64_w, i32_w]
 rfl
 }
 refine pX 4 79 (fl 11 223) rfl rfl HT_.out ?_
 refine pX 5 80 (fl 11 255) rfl rfl HT_.out ?_
 refine one_ (i := 8) (N := some 83) #[tt,tt,tt,tt,tt,tt,tt,tt,tt,ff,ff] rfl rfl (one_of HT_.out (by kernel_rfl)) (by decide) (fun K hK => ?_)
 refine goes_ Tryz.func9 (by kernel_rfl) rfl #[.int .i64 ((rd_T38 t561 x66_2).f1)] (by rfl) rfl rfl aX ?_
 with_reducible refine (impl_FormatInt.calls ((rd_T38 t561 x66_2).f1) t583 _ ?side1 A78.out).mono ?_
 (case side1 => exact PowTab.below HTAB.out (bX2 HB.out GE557.out GE579.out))
 rintro e w86 ⟨rfl, hb⟩
 refine ⟨_, rfl, ?_⟩
 have n0_ := Aside0.mk (Kd.R_below (rX HO_5.out) hb)
 have n1_ := Aside0.mk (Kd.R_below (rX HO_64.out) hb)
 have n2_ := Aside0.mk (Kd.R_below (rX HO_558000.out) hb)
 have n3_ := Aside0.mk (Kd.R_below (rX HO_558001.out) hb)
 have n4_ := Aside0.mk (bbX BK557.out hb)
 have n5_ := Aside0.mk (bbX BK579.out hb)
 have n6_ := Aside0.mk (below_step (bX2 HB.out GE557.out GE579.out) hb)
 clear HO_5 HO_64 HO_558000 HO_558001 BK557 BK579 HB
 have HO_5 := n0_
 have HO_64 := n1_
 have HO_558000 := n2_
 have HO_558001 := n3_
 have BK557 := n4_
 have BK579 := n5_
 have HB := n6_
 clear n0_ n1_ n2_ n3_ n4_ n5_ n6_
 (try clear hb)
 (try clear hb2)
 (try clear hk)
 (try clear hi)
 refine hK.out _ _ ⟨cz20 BK579.out, cz21 BK579.out⟩ (fun hHeld => ?_)
 clear hK K
 refine norm_ (a' := ?_) ?_ ?_
 rotate_left
 {
 show Act.put _ (some 83) _ = _
 simp only [Act.put, zA, zB, zC, i64_w, i32_w]
 rfl
 }
 refine pX 9 84 (fl 11 1023) rfl rfl HT_.out ?_
 refine pX 10 7 (fl 11 2047) rfl rfl HT_.out ?_
 refine done_ (done_of HT_.out (by kernel_rfl)) ?_
 try go_wp2
 go_roundg k2
 case measure => have := HJ5.out; have := HK2.out; omega
 case rel => exact ⟨(((x7_2 ++ t582) ++ (⟨#[120]⟩ : ByteArray)) ++ t583), (wrap64 (x66_2 + 1)), vX, vX, H', ⟨by have := HJ5.out; have := HK2.out; omega⟩, ⟨rM HO_5.out (fun _ hk => trivial)⟩, ⟨rM HO_64.out (fun _ hk => trivial)⟩, ⟨rX HO_558000.out⟩, ⟨rX HO_558001.out⟩, ⟨kX BK557.out⟩, ⟨bX2 HB.out GE557.out GE579.out⟩⟩
 }
 {
 rw [if_neg c79] at H
 exact absurd H (by simp)
 }
 }
 {
 rw [if_neg c77] at H
 exact absurd H (by simp)
 }
 }
 {
 rw [if_neg c76] at H
 exact absurd H (by simp)
 }
 }
 }
 {
 rw [if_neg c60] at H
 exact absurd H (by simp)
 }
 }
 {
 rw [if_neg c59] at H
 exact absurd H (by simp)
 }
 }
 {
 rw [if_neg c58] at H
 have c58b0 : decide (x66_2 < (t561.length : Int)) = false := decide_eq_false c58
 clear c58
 replace H := Option.bind_eq_some_iff.mp H
 obtain ⟨t576, A870, H⟩ := H
 replace H : (if t576.toList = x7_2.toList then ((impl_CylinderLine.f k2 ([] : List (S38))).bind fun t577 => (some (t577.toList == ([45] : List UInt8)))) else (some false)) = some r := H
 have A87 := Aside0.mk A870
 clear A870
 by_cases c88 : t576.toList = x7_2.toList
 {
 rw [if_pos c88] at H
 have c88b0 : (t576.toList == x7_2.toList) = true := beq_iff_eq.mpr c88
 have c88b1 : (t576.toList != x7_2.toList) = false := bne_eq_false_iff_eq.mpr c88
 clear c88
 replace H := Option.bind_eq_some_iff.mp H
 obtain ⟨t577, A890, H⟩ := H
 replace H : (some (t577.toList == ([45] : List UInt8))) = some r := H
 have A89 := Aside0.mk A890
 clear A890
 obtain rfl := Option.some.inj H
 go_wp2_with (first | ((with_reducible refine gate_callee (f := 14) rfl ?_); refine goesL_ (some 87) rfl rfl Tryz.func14 (by kernel_rfl) rfl #[.slice Ao57 t561.length co57] rfl aX ?_; (with_reducible refine (impl_CylinderLine.calls k2 _ _ t561 t576 _ ?side1 ?side2 ?side3 A87.out).mono ?_); (case side1 => exact cX (Kd.R_reads' HO_5.out).2.2); (case side2 => exact (Kd.R_reads' HO_5.out).2.1); (case side3 => exact PowTab.below HTAB.out (bX1 HB.out GE557.out)); rintro e w90 ⟨rfl, hb⟩; refine ⟨_, rfl, ?_⟩; have n0_ := Aside0.mk (Kd.R_below (rX HO_5.out) hb); have n1_ := Aside0.mk (Kd.R_below (rX HO_64.out) hb); have n2_ := Aside0.mk (Kd.R_below (rX HO_558000.out) hb); have n3_ := Aside0.mk (Kd.R_below (rX HO_558001.out) hb); have n4_ := Aside0.mk (bbX BK557.out hb); have n5_ := Aside0.mk (below_step (bX1 HB.out GE557.out) hb); clear HO_5 HO_64 HO_558000 HO_558001 BK557 HB; have HO_5 := n0_; have HO_64 := n1_; have HO_558000 := n2_; have HO_558001 := n3_; have BK557 := n4_; have HB := n5_; clear n0_ n1_ n2_ n3_ n4_ n5_; (try clear hb); (try clear hb2); (try clear hk); (try clear hi)) | (go_at_call 14; (refine (impl_CylinderLine.calls k2 _ _ ([] : List (S38)) t577 _ ?side1 ?side2 ?side3 A89.out).mono ?_); (case side1 => exact Kd.C_nil _ _); (case side2 => exact Nat.le_refl _); (case side3 => exact PowTab.below HTAB.out (bX1 HB.out GE557.out)); rintro e w91 ⟨rfl, hb⟩; have n0_ := Aside0.mk (Kd.R_below (rX HO_5.out) hb); have n1_ := Aside0.mk (Kd.R_below (rX HO_64.out) hb); have n2_ := Aside0.mk (Kd.R_below (rX HO_558000.out) hb); have n3_ := Aside0.mk (Kd.R_below (rX HO_558001.out) hb); have n4_ := Aside0.mk (bbX BK557.out hb); have n5_ := Aside0.mk (below_step (bX1 HB.out GE557.out) hb); clear HO_5 HO_64 HO_558000 HO_558001 BK557 HB; have HO_5 := n0_; have HO_64 := n1_; have HO_558000 := n2_; have HO_558001 := n3_; have BK557 := n4_; have HB := n5_; clear n0_ n1_ n2_ n3_ n4_ n5_; (try clear hb); (try clear hb2); (try clear hk); (try clear hi)))
 go_ret
 exact ⟨eX, bX1 HB.out GE557.out⟩
 }
 {
 rw [if_neg c88] at H
 have c88b0 : (t576.toList == x7_2.toList) = false := beq_eq_false_iff_ne.mpr c88
 have c88b1 : (t576.toList != x7_2.toList) = true := bne_iff_ne.mpr c88
 exact absurd ((Option.some.inj H).trans HRT.out) (by decide)
 }
 }
 }
 }

end Go.Proofs.YthhdgeafdnikcaaGreatDoor.S
