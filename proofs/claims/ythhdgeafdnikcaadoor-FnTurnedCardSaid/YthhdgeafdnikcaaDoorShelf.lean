/-
  DERIVED: THE SHELF's CONTRACTS AT THIS DUMP, IN PLAIN WORDS (tools/lay-plain.mjs out of 'TrydShelf.lean', which tools/lay-shelf.mjs wrote): THE SAME DECLARATIONS UNDER THE SAME NAMES: 'import', 'namespace', 'open', 'def', 'theorem' AND NOTHING ELSE: no command of the shelf's: FOR A HAND-IN. Each laying: the table of numbers ('.._ren') and one theorem, a field a fact of the dump's own or the kernel's comparison; each contract: ONE APPLICATION.
-/
import Derived.Shelf.Strings.Builder1
import Derived.Shelf.Strings.Builder2
import Derived.Shelf.Strings.OnBuilder
import Derived.Shelf.Small.Strs
import Derived.Shelf.Small.Wraps
import Derived.Shelf.Strconv.Itoa0
import Derived.Shelf.Strconv.Itoa1
import Derived.Shelf.LaysM
import Derived.Shelf.Strconv.Itoa2
import Derived.Shelf.Strconv.Itoa3
import Derived.Shelf.Strings.Search1
import Derived.Ground.Names2Prog
import Derived.Shelf.Slices.SearchI
import Derived.Test.YthhdgeafdnikcaaDoorProg
namespace Go.Proofs
open Go.Shelf
def Tryd.lays156_ren : Go.Shelf.Ren:=⟨fun|156=>62|165=>73|166=>74|169=>75|240=>80|241=>81|276=>87|277=>88|n=>n,fun|31=>72|9=>9|3=>3|4=>4|0=>0|20=>20|72=>85|76=>89|70=>83|37=>22|75=>88|127=>95|164=>102|5=>5|80=>91|n=>n,fun|n=>n⟩
theorem Tryd.lays156 : Go.Proofs.Lays.n156 Tryd.prog Tryd.lays156_ren:={
  mixed:=by kernel_rfl
  f156:=Tryd.func62.trans (congrArg some (by kernel_rfl))
  f165:=Tryd.func73.trans (congrArg some (by kernel_rfl))
  f166:=Tryd.func74.trans (congrArg some (by kernel_rfl))
  f169:=Tryd.func75.trans (congrArg some (by kernel_rfl))
  f240:=Tryd.func80.trans (congrArg some (by kernel_rfl))
  f241:=Tryd.func81.trans (congrArg some (by kernel_rfl))
  f276:=Tryd.func87.trans (congrArg some (by kernel_rfl))
  f277:=Tryd.func88.trans (congrArg some (by kernel_rfl))
  t0:=Tryd.underlying0
  a0:=Tryd.isAgg0
  z0:=Tryd.sizeOf0
  v0:=Tryd.zeroValue0
  t3:=Tryd.underlying3
  a3:=Tryd.isAgg3
  z3:=Tryd.sizeOf3
  v3:=Tryd.zeroValue3
  t4:=Tryd.underlying4
  a4:=Tryd.isAgg4
  z4:=Tryd.sizeOf4
  v4:=Tryd.zeroValue4
  t9:=Tryd.underlying9
  a9:=Tryd.isAgg9
  z9:=Tryd.sizeOf9
  v9:=Tryd.zeroValue9
  t20:=Tryd.underlying20
  a20:=Tryd.isAgg20
  z20:=Tryd.sizeOf20
  v20:=Tryd.zeroValue20
  t31:=Tryd.underlying72
  a31:=Tryd.isAgg72
  z31:=Tryd.sizeOf72
  v31:=Tryd.zeroValue72
  t37:=Tryd.underlying22
  a37:=Tryd.isAgg22
  z37:=Tryd.sizeOf22
  v37:=Tryd.zeroValue22
  t70:=Tryd.underlying83
  a70:=Tryd.isAgg83
  z70:=Tryd.sizeOf83
  v70:=Tryd.zeroValue83
  t72:=Tryd.underlying85
  a72:=Tryd.isAgg85
  z72:=Tryd.sizeOf85
  v72:=Tryd.zeroValue85
  t75:=Tryd.underlying88
  a75:=Tryd.isAgg88
  z75:=Tryd.sizeOf88
  v75:=Tryd.zeroValue88
  t76:=Tryd.underlying89
  a76:=Tryd.isAgg89
  z76:=Tryd.sizeOf89
  v76:=Tryd.zeroValue89
  t127:=Tryd.underlying95
  a127:=Tryd.isAgg95
  z127:=Tryd.sizeOf95
  v127:=Tryd.zeroValue95
  t164:=Tryd.underlying102
  a164:=Tryd.isAgg102
  z164:=Tryd.sizeOf102
  v164:=Tryd.zeroValue102 }
theorem Tryd.Builder_Extra_156 : Builder.Extra Tryd.prog Tryd.lays156_ren:={
  sizeBuilder:=by kernel_rfl
  liesBuilder:=by kernel_rfl
  t5:=Tryd.underlying5
  a5:=Tryd.isAgg5
  z5:=Tryd.sizeOf5
  v5:=Tryd.zeroValue5
  infoByte:=by kernel_rfl
  cellsByte:=by kernel_rfl
  sizeByte:=by kernel_rfl
  neB5:=by decide }
open Go.RowKit in
/-- No element: the empty string; the world is as it was. (Whatever the slice's address and capacity: a nil slice too.) (LAID: no walk: one application.) -/
theorem Tryd.strings_Join_none (a:Option Addr) (c:Nat) (sep:ByteArray) (w:World) :
    Calls Tryd.prog 62 #[.slice a 0 c,.string sep] w fun e w'=>e = .returned (.string ⟨#[]⟩)∧w'=w:=Any.strings_Join_none Tryd.lays156 Tryd.Builder_Extra_156 a c sep w
open Go.RowKit in
/-- strings.Join: "Join concatenates the elements of its first argument to create a single string. The separator string sep is placed between elements in the resulting string.": HOWEVER MANY ELEMENTS. Below the heap's end the world is as it was. (LAID: no walk: one application.) -/
theorem Tryd.strings_Join (bk o c:Nat) (xs:List ByteArray) (sep:ByteArray) (w:World) (hcells:∀ (j:Nat) x,xs[j]? = some x→w.cell? ⟨bk,o+j,none⟩=some (.string x)) (hbk:bk<w.heap.size) (hN:xs.length≤140737488355328) (hcap:xs.length≤c) (hlen:(Lib.join (xs.map (·.data.toList)) sep.data.toList).length≤140737488355328) :
    Calls Tryd.prog 62 #[.slice (some ⟨bk,o,none⟩) xs.length c,.string sep] w fun e w'=>e = .returned (.string ⟨(Lib.join (xs.map (·.data.toList)) sep.data.toList).toArray⟩)∧Below w.heap.size w w':=Any.strings_Join Tryd.lays156 Tryd.Builder_Extra_156 bk o c xs sep w hcells hbk hN hcap hlen
def Tryd.lays137_ren : Go.Shelf.Ren:=⟨fun|137=>66|217=>78|266=>82|n=>n,fun|9=>9|5=>5|3=>3|n=>n,fun|n=>n⟩
theorem Tryd.lays137 : Go.Proofs.Lays.n137 Tryd.prog Tryd.lays137_ren:={
  mixed:=by kernel_rfl
  f137:=Tryd.func66.trans (congrArg some (by kernel_rfl))
  f217:=Tryd.func78.trans (congrArg some (by kernel_rfl))
  f266:=Tryd.func82.trans (congrArg some (by kernel_rfl))
  t3:=Tryd.underlying3
  a3:=Tryd.isAgg3
  z3:=Tryd.sizeOf3
  v3:=Tryd.zeroValue3
  t5:=Tryd.underlying5
  a5:=Tryd.isAgg5
  z5:=Tryd.sizeOf5
  v5:=Tryd.zeroValue5
  t9:=Tryd.underlying9
  a9:=Tryd.isAgg9
  z9:=Tryd.sizeOf9
  v9:=Tryd.zeroValue9 }
open Go.RowKit in
/-- strings.IndexByte: "IndexByte returns the index of the first instance of c in s, or -1 if c is not present in s.": IT RETURNS 'Lib.indexByte s c'; the world is as it was. (LAID: no walk: one application.) -/
theorem Tryd.strings_IndexByte (s:ByteArray) (c:Int) (w:World) :
    Calls Tryd.prog 66 #[.string s,.int .u8 c] w fun e w'=>e = .returned (.int .i64 (Lib.indexByte s.data.toList c.toNat.toUInt8))∧w'=w:=Any.strings_IndexByte Tryd.lays137 s c w
def Tryd.laysM171_ren : Go.Shelf.Ren:=⟨fun|171=>61|243=>72|246=>79|283=>83|284=>84|285=>85|286=>86|129=>90|317=>89|318=>91|319=>92|320=>93|337=>94|338=>95|n=>n,fun|3=>3|9=>9|2=>2|4=>4|171=>96|0=>0|53=>97|37=>22|5=>5|173=>100|212=>107|51=>108|20=>20|213=>109|46=>75|232=>112|233=>113|n=>n,fun|17=>1|18=>2|19=>3|n=>n⟩
theorem Tryd.laysM171 : Go.Proofs.LaysM.n171 Tryd.prog Tryd.laysM171_ren:={
  mixed:=by kernel_rfl
  f129:=Tryd.func90.trans (congrArg some (by kernel_rfl))
  f171:=Tryd.func61.trans (congrArg some (by kernel_rfl))
  f243:=Tryd.func72.trans (congrArg some (by kernel_rfl))
  f246:=Tryd.func79.trans (congrArg some (by kernel_rfl))
  f283:=Tryd.func83.trans (congrArg some (by kernel_rfl))
  f284:=Tryd.func84.trans (congrArg some (by kernel_rfl))
  f285:=Tryd.func85.trans (congrArg some (by kernel_rfl))
  f286:=Tryd.func86.trans (congrArg some (by kernel_rfl))
  f317:=Tryd.func89.trans (congrArg some (by kernel_rfl))
  f318:=Tryd.func91.trans (congrArg some (by kernel_rfl))
  f319:=Tryd.func92.trans (congrArg some (by kernel_rfl))
  f320:=Tryd.func93.trans (congrArg some (by kernel_rfl))
  f337:=Tryd.func94.trans (congrArg some (by kernel_rfl))
  f338:=Tryd.func95.trans (congrArg some (by kernel_rfl))
  t0:=Tryd.underlying0
  a0:=Tryd.isAgg0
  z0:=Tryd.sizeOf0
  v0:=Tryd.zeroValue0
  t2:=Tryd.underlying2
  a2:=Tryd.isAgg2
  z2:=Tryd.sizeOf2
  v2:=Tryd.zeroValue2
  t3:=Tryd.underlying3
  a3:=Tryd.isAgg3
  z3:=Tryd.sizeOf3
  v3:=Tryd.zeroValue3
  t4:=Tryd.underlying4
  a4:=Tryd.isAgg4
  z4:=Tryd.sizeOf4
  v4:=Tryd.zeroValue4
  t5:=Tryd.underlying5
  a5:=Tryd.isAgg5
  z5:=Tryd.sizeOf5
  v5:=Tryd.zeroValue5
  t9:=Tryd.underlying9
  a9:=Tryd.isAgg9
  z9:=Tryd.sizeOf9
  v9:=Tryd.zeroValue9
  t20:=Tryd.underlying20
  a20:=Tryd.isAgg20
  z20:=Tryd.sizeOf20
  v20:=Tryd.zeroValue20
  t37:=Tryd.underlying22
  a37:=Tryd.isAgg22
  z37:=Tryd.sizeOf22
  v37:=Tryd.zeroValue22
  t46:=Tryd.underlying75
  a46:=Tryd.isAgg75
  z46:=Tryd.sizeOf75
  v46:=Tryd.zeroValue75
  t51:=Tryd.underlying108
  a51:=Tryd.isAgg108
  z51:=Tryd.sizeOf108
  v51:=Tryd.zeroValue108
  t53:=Tryd.underlying97
  a53:=Tryd.isAgg97
  z53:=Tryd.sizeOf97
  v53:=Tryd.zeroValue97
  t171:=Tryd.underlying96
  a171:=Tryd.isAgg96
  z171:=Tryd.sizeOf96
  v171:=Tryd.zeroValue96
  t173:=Tryd.underlying100
  a173:=Tryd.isAgg100
  z173:=Tryd.sizeOf100
  v173:=Tryd.zeroValue100
  t212:=Tryd.underlying107
  a212:=Tryd.isAgg107
  z212:=Tryd.sizeOf107
  v212:=Tryd.zeroValue107
  t213:=Tryd.underlying109
  a213:=Tryd.isAgg109
  z213:=Tryd.sizeOf109
  t232:=Tryd.underlying112
  a232:=Tryd.isAgg112
  z232:=Tryd.sizeOf112
  v232:=Tryd.zeroValue112
  t233:=Tryd.underlying113
  a233:=Tryd.isAgg113
  z233:=Tryd.sizeOf113
  v233:=Tryd.zeroValue113
  g17:=by kernel_rfl
  g18:=by kernel_rfl
  g19:=by kernel_rfl
  i0:=by kernel_rfl
  i2:=by kernel_rfl
  i3:=by kernel_rfl
  i4:=by kernel_rfl
  i5:=by kernel_rfl
  i9:=by kernel_rfl
  i20:=by kernel_rfl
  i37:=by kernel_rfl
  i46:=by kernel_rfl
  i51:=by kernel_rfl
  i53:=by kernel_rfl
  i171:=by kernel_rfl
  i173:=by kernel_rfl
  i212:=by kernel_rfl
  i232:=by kernel_rfl
  i233:=by kernel_rfl
  m17:=by kernel_rfl
  m18:=by kernel_rfl
  m19:=by kernel_rfl }
open Go.RowKit Go.Sort Go.Lib in
/-- strconv.Itoa: "Itoa is equivalent to FormatInt(int64(i), 10).": i's DECIMAL NUMERAL ('Lib.itoa': a '-' where i is negative, then the digits), FOR EVERY int. The world behind the call: the world before it, new blocks behind the heap (the library's 'var a [24]byte'), draws. (LAID: no walk: one application.) -/
theorem Tryd.strconv_Itoa (n : Int) (h0 : -9223372036854775808 ≤ n) (h1 : n ≤ 9223372036854775807) (w : World) (htab : Lib.TabIs Tryd.prog w "internal/strconv.uint64pow10" .u64 Lib.pow10Tab) :
    Calls Tryd.prog 61 #[.int .i64 n] w fun e w'=>e = .returned (.string ⟨(Lib.itoa n).toArray⟩)∧∃ k os,w'=grow (w.drewN k) os:=Any.strconv_Itoa Tryd.laysM171 n h0 h1 w htab
end Go.Proofs
