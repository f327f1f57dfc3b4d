/- Texts of this claim, put together by a program of this session (prune.py): Shelf, Build, Given, OctA, OctB, OctC, OctD, OctE, POctx0, POctx1. -/
import Derived.Shelf.Strings.Builder1
import Derived.Shelf.Small.Strs
import Derived.Shelf.Strings.BuilderF
import Derived.Shelf.Strings.BuilderK
import Derived.Shelf.Strconv.Atoi
import Derived.Shelf.Strconv.Itoa0
import Derived.Shelf.Strconv.Itoa1
import Derived.Shelf.LaysM
import Derived.Shelf.Strconv.Itoa2
import Derived.Shelf.Strconv.Itoa3
import Derived.Shelf.Strconv.AtoiErrFast
import Derived.Shelf.Strconv.ParseIntEmpty
import Derived.Shelf.Strconv.AtoiFail
import Derived.Shelf.Strconv.Clone
import Derived.Shelf.Strconv.SyntaxError
import Derived.Shelf.LaysC
import Derived.Shelf.Strconv.ToError
import Derived.Shelf.Strconv.Lower
import Derived.Shelf.Strconv.ParseUint10
import Derived.Shelf.Strconv.ParseUint10Empty
import Derived.Shelf.Strconv.ParseUint10Any
import Derived.Shelf.Strconv.ParseInt10
import Derived.Shelf.Strconv.AtoiLong
import Derived.Shelf.Strconv.AtoiInnerAll
import Derived.Shelf.Strconv.RangeError
import Derived.Shelf.Strconv.ToErrorRange
import Derived.Shelf.Strconv.AtoiAll
import Derived.Shelf.Strconv.ErrVarAll
import Derived.Shelf.Strings.Search1
import Derived.Shelf.Strings.Search2
import Derived.Shelf.Strings.Cut
import Derived.Shelf.Strings.Shaped
import Derived.Shelf.Strings.Prefix
import Derived.Shelf.Strings.BuilderCap
import Derived.Test.YtnblabfkkcohgaaGreatDoorProg
import Derived.Shelf.Strings.BuilderX
import Derived.Lib.AppendIntMem
import Derived.Below
import Derived.Test.YtnblabfkkcohgaaGreatDoorQUWWords
import Derived.Test.YtnblabfkkcohgaaGreatDoorQUWLast
import Derived.Test.YtnblabfkkcohgaaGreatDoorQUWShare
import Derived.WalkKit
import Derived.Handy
import Derived.Deep.LoopGhost
import Derived.Deep.QuietTactic
import Derived.BigQuiet
import Derived.Lib.AtoiAllCases
import Derived.Lib.ItoaMem
import Derived.Lib.SmallJoins
import Derived.Deep.Draws
import Derived.Deep.AppendLies
import Derived.Maps.AppendAt
import Derived.OwnWalk
import Derived.Laws.BytesArg
import Derived.Laws.MakeOwn
import Derived.Laws.OwnMore
import Derived.Deep.OwnRows
import Derived.Tactics
import Derived.Lib.ConvBytes
import Derived.Laws.Slices
import Derived.KernelRfl
import Derived.RowKit3
import Derived.WideLaws
import Derived.Deep.DeepCutAuto
import Derived.Deep.CutBlock
import Derived.Deep.RegionHeld3
import Derived.Laws.Rows
import Derived.Lib.AppendStr
import Derived.ArgAppend
import Derived.Laws.IdiomCopy
import Derived.OrdersHeld
import Derived.Laws.BitsLemmas
import Derived.RowKit
import Derived.Test.YtnblabfkkcohgaaGreatDoorQUWTab
import Derived.Test.YtnblabfkkcohgaaGreatDoorQUWFour
import Derived.Test.YtnblabfkkcohgaaGreatDoorQUWQPut
import Derived.Test.YtnblabfkkcohgaaGreatDoorQUWApart
import Derived.Test.YtnblabfkkcohgaaGreatDoorQUWArr
import Derived.Test.YtnblabfkkcohgaaGreatDoorQUWZeros
import Derived.Test.YtnblabfkkcohgaaGreatDoorQUWFoot
import Derived.Test.YtnblabfkkcohgaaGreatDoorQUWKept
import Derived.Test.YtnblabfkkcohgaaGreatDoorQUWN
import Derived.Test.YtnblabfkkcohgaaGreatDoorQUWFootNe
import Derived.Test.YtnblabfkkcohgaaGreatDoorQUWAt
import Derived.Test.YtnblabfkkcohgaaGreatDoorQUWEqStruct
import Derived.Test.YtnblabfkkcohgaaGreatDoorQUWRepsOne
import Derived.Test.YtnblabfkkcohgaaGreatDoorQUWInv
import Derived.Test.YtnblabfkkcohgaaGreatDoorQUWInvWords
import Derived.Test.YtnblabfkkcohgaaGreatDoorQUWGuard
import Derived.Test.YtnblabfkkcohgaaGreatDoorQUWNEv
import Derived.Test.YtnblabfkkcohgaaGreatDoorQUWMore
section
/-
  DERIVED: THE SHELF's CONTRACTS AT THIS DUMP, IN PLAIN WORDS (tools/lay-plain.mjs out of 'TryzShelf.lean', which tools/lay-shelf.mjs wrote): THE SAME DECLARATIONS UNDER THE SAME NAMES: 'import', 'namespace', 'open', 'def', 'theorem' AND NOTHING ELSE: no command of the shelf's: FOR A HAND-IN. Each laying: the table of numbers ('.._ren') and one theorem, a field a fact of the dump's own or the kernel's comparison; each contract: ONE APPLICATION.
-/
namespace Go.Proofs
open Go.Shelf
def Tryz.lays169_ren : Go.Shelf.Ren := ⟨fun | 169 => 34 | n => n, fun | 70 => 50 | 9 => 9 | 0 => 0 | 72 => 53 | 37 => 51 | 127 => 91 | 3 => 3 | 5 => 5 | n => n, fun | n => n⟩
theorem Tryz.lays169 : Go.Proofs.Lays.n169 Tryz.prog Tryz.lays169_ren := {
  mixed := by kernel_rfl
  f169 := Tryz.func34.trans (congrArg some (by kernel_rfl))
  t0 := Tryz.underlying0
  a0 := Tryz.isAgg0
  z0 := Tryz.sizeOf0
  v0 := Tryz.zeroValue0
  t3 := Tryz.underlying3
  a3 := Tryz.isAgg3
  z3 := Tryz.sizeOf3
  v3 := Tryz.zeroValue3
  t9 := Tryz.underlying9
  a9 := Tryz.isAgg9
  z9 := Tryz.sizeOf9
  v9 := Tryz.zeroValue9
  t37 := Tryz.underlying51
  a37 := Tryz.isAgg51
  z37 := Tryz.sizeOf51
  v37 := Tryz.zeroValue51
  t70 := Tryz.underlying50
  a70 := Tryz.isAgg50
  z70 := Tryz.sizeOf50
  v70 := Tryz.zeroValue50
  t72 := Tryz.underlying53
  a72 := Tryz.isAgg53
  z72 := Tryz.sizeOf53
  v72 := Tryz.zeroValue53
  t127 := Tryz.underlying91
  a127 := Tryz.isAgg91
  z127 := Tryz.sizeOf91
  v127 := Tryz.zeroValue91 }
theorem Tryz.Builder_Extra_169 : Builder.Extra Tryz.prog Tryz.lays169_ren := {
  sizeBuilder := by kernel_rfl
  liesBuilder := by kernel_rfl
  t5 := Tryz.underlying5
  a5 := Tryz.isAgg5
  z5 := Tryz.sizeOf5
  v5 := Tryz.zeroValue5
  infoByte := by kernel_rfl
  cellsByte := by kernel_rfl
  sizeByte := by kernel_rfl
  neB5 := by decide }
def Tryz.lays137_ren : Go.Shelf.Ren := ⟨fun | 137 => 143 | 217 => 144 | 266 => 153 | n => n, fun | 9 => 9 | 5 => 5 | 3 => 3 | n => n, fun | n => n⟩
theorem Tryz.lays137 : Go.Proofs.Lays.n137 Tryz.prog Tryz.lays137_ren := {
  mixed := by kernel_rfl
  f137 := Tryz.func143.trans (congrArg some (by kernel_rfl))
  f217 := Tryz.func144.trans (congrArg some (by kernel_rfl))
  f266 := Tryz.func153.trans (congrArg some (by kernel_rfl))
  t3 := Tryz.underlying3
  a3 := Tryz.isAgg3
  z3 := Tryz.sizeOf3
  v3 := Tryz.zeroValue3
  t5 := Tryz.underlying5
  a5 := Tryz.isAgg5
  z5 := Tryz.sizeOf5
  v5 := Tryz.zeroValue5
  t9 := Tryz.underlying9
  a9 := Tryz.isAgg9
  z9 := Tryz.sizeOf9
  v9 := Tryz.zeroValue9 }
open Go.RowKit in
/-- strings.IndexByte: "IndexByte returns the index of the first instance of c in s, or -1 if c is not present in s.": IT RETURNS 'Lib.indexByte s c'; the world is as it was. (LAID: no walk: one application.) -/
theorem Tryz.strings_IndexByte (s : ByteArray) (c : Int) (w : World) :
    Calls Tryz.prog 143 #[.string s, .int .u8 c] w fun e w' => e = .returned (.int .i64 (Lib.indexByte s.data.toList c.toNat.toUInt8)) ∧ w' = w := Any.strings_IndexByte Tryz.lays137 s c w
open Go.RowKit in
/-- (*strings.Builder).String: "String returns the accumulated string.": WHATEVER THE BUILDER HOLDS; THE FORM '_f': OF A BUILDER THAT MAY HAVE BEEN READ BEFORE; AND IT IS A BUILDER STILL, holding the same bytes: it can be written on. (LAID: no walk: one application.) -/
theorem Tryz.Builder_String_any_f (B b : Nat) (l : List UInt8) (w : World) (h : Lib.IsBuilderF 53 5 B b (Lib.byteCells l) w) (hBw : B ≤ w.heap.size) :
    Calls Tryz.prog 34 #[.pointer (some ⟨b, 0, none⟩)] w fun e w' => e = .returned (.string ⟨l.toArray⟩) ∧ (Lib.IsBuilderF 53 5 B b (Lib.byteCells l) w' ∧ Below B w w') := Any.Builder_String_any_f Tryz.lays169 Tryz.Builder_Extra_169 B b l w h hBw
def Tryz.laysM171_ren : Go.Shelf.Ren := ⟨fun | 171 => 141 | 243 => 152 | 246 => 160 | 283 => 164 | 284 => 165 | 285 => 166 | 286 => 167 | 129 => 171 | 317 => 170 | 318 => 172 | 319 => 173 | 320 => 174 | 337 => 175 | 338 => 176 | n => n, fun | 3 => 3 | 9 => 9 | 2 => 2 | 4 => 4 | 171 => 145 | 0 => 0 | 53 => 139 | 37 => 51 | 5 => 5 | 173 => 148 | 212 => 155 | 51 => 129 | 20 => 20 | 213 => 156 | 46 => 125 | 232 => 160 | 233 => 161 | n => n, fun | 17 => 4 | 18 => 5 | 19 => 6 | n => n⟩
theorem Tryz.laysM171 : Go.Proofs.LaysM.n171 Tryz.prog Tryz.laysM171_ren := {
  mixed := by kernel_rfl
  f129 := Tryz.func171.trans (congrArg some (by kernel_rfl))
  f171 := Tryz.func141.trans (congrArg some (by kernel_rfl))
  f243 := Tryz.func152.trans (congrArg some (by kernel_rfl))
  f246 := Tryz.func160.trans (congrArg some (by kernel_rfl))
  f283 := Tryz.func164.trans (congrArg some (by kernel_rfl))
  f284 := Tryz.func165.trans (congrArg some (by kernel_rfl))
  f285 := Tryz.func166.trans (congrArg some (by kernel_rfl))
  f286 := Tryz.func167.trans (congrArg some (by kernel_rfl))
  f317 := Tryz.func170.trans (congrArg some (by kernel_rfl))
  f318 := Tryz.func172.trans (congrArg some (by kernel_rfl))
  f319 := Tryz.func173.trans (congrArg some (by kernel_rfl))
  f320 := Tryz.func174.trans (congrArg some (by kernel_rfl))
  f337 := Tryz.func175.trans (congrArg some (by kernel_rfl))
  f338 := Tryz.func176.trans (congrArg some (by kernel_rfl))
  t0 := Tryz.underlying0
  a0 := Tryz.isAgg0
  z0 := Tryz.sizeOf0
  v0 := Tryz.zeroValue0
  t2 := Tryz.underlying2
  a2 := Tryz.isAgg2
  z2 := Tryz.sizeOf2
  v2 := Tryz.zeroValue2
  t3 := Tryz.underlying3
  a3 := Tryz.isAgg3
  z3 := Tryz.sizeOf3
  v3 := Tryz.zeroValue3
  t4 := Tryz.underlying4
  a4 := Tryz.isAgg4
  z4 := Tryz.sizeOf4
  v4 := Tryz.zeroValue4
  t5 := Tryz.underlying5
  a5 := Tryz.isAgg5
  z5 := Tryz.sizeOf5
  v5 := Tryz.zeroValue5
  t9 := Tryz.underlying9
  a9 := Tryz.isAgg9
  z9 := Tryz.sizeOf9
  v9 := Tryz.zeroValue9
  t20 := Tryz.underlying20
  a20 := Tryz.isAgg20
  z20 := Tryz.sizeOf20
  v20 := Tryz.zeroValue20
  t37 := Tryz.underlying51
  a37 := Tryz.isAgg51
  z37 := Tryz.sizeOf51
  v37 := Tryz.zeroValue51
  t46 := Tryz.underlying125
  a46 := Tryz.isAgg125
  z46 := Tryz.sizeOf125
  v46 := Tryz.zeroValue125
  t51 := Tryz.underlying129
  a51 := Tryz.isAgg129
  z51 := Tryz.sizeOf129
  v51 := Tryz.zeroValue129
  t53 := Tryz.underlying139
  a53 := Tryz.isAgg139
  z53 := Tryz.sizeOf139
  v53 := Tryz.zeroValue139
  t171 := Tryz.underlying145
  a171 := Tryz.isAgg145
  z171 := Tryz.sizeOf145
  v171 := Tryz.zeroValue145
  t173 := Tryz.underlying148
  a173 := Tryz.isAgg148
  z173 := Tryz.sizeOf148
  v173 := Tryz.zeroValue148
  t212 := Tryz.underlying155
  a212 := Tryz.isAgg155
  z212 := Tryz.sizeOf155
  v212 := Tryz.zeroValue155
  t213 := Tryz.underlying156
  a213 := Tryz.isAgg156
  z213 := Tryz.sizeOf156
  t232 := Tryz.underlying160
  a232 := Tryz.isAgg160
  z232 := Tryz.sizeOf160
  v232 := Tryz.zeroValue160
  t233 := Tryz.underlying161
  a233 := Tryz.isAgg161
  z233 := Tryz.sizeOf161
  v233 := Tryz.zeroValue161
  g17 := by kernel_rfl
  g18 := by kernel_rfl
  g19 := by kernel_rfl
  i0 := by kernel_rfl
  i2 := by kernel_rfl
  i3 := by kernel_rfl
  i4 := by kernel_rfl
  i5 := by kernel_rfl
  i9 := by kernel_rfl
  i20 := by kernel_rfl
  i37 := by kernel_rfl
  i46 := by kernel_rfl
  i51 := by kernel_rfl
  i53 := by kernel_rfl
  i171 := by kernel_rfl
  i173 := by kernel_rfl
  i212 := by kernel_rfl
  i232 := by kernel_rfl
  i233 := by kernel_rfl
  m17 := by kernel_rfl
  m18 := by kernel_rfl
  m19 := by kernel_rfl }
open Go.RowKit Go.Sort Go.Lib in
/-- strconv.Itoa: "Itoa is equivalent to FormatInt(int64(i), 10).": i's DECIMAL NUMERAL ('Lib.itoa': a '-' where i is negative, then the digits), FOR EVERY int. The world behind the call: the world before it, new blocks behind the heap (the library's 'var a [24]byte'), draws. (LAID: no walk: one application.) -/
theorem Tryz.strconv_Itoa (n : Int) (h0 : -9223372036854775808 ≤ n) (h1 : n ≤ 9223372036854775807) (w : World) (htab : Lib.TabIs Tryz.prog w "internal/strconv.uint64pow10" .u64 Lib.pow10Tab) :
    Calls Tryz.prog 141 #[.int .i64 n] w fun e w' => e = .returned (.string ⟨(Lib.itoa n).toArray⟩) ∧ ∃ k os, w' = grow (w.drewN k) os := Any.strconv_Itoa Tryz.laysM171 n h0 h1 w htab
def Tryz.laysC172_ren : Go.Shelf.Ren := ⟨fun | 172 => 140 | 244 => 150 | 245 => 151 | 247 => 155 | 279 => 156 | 280 => 157 | 281 => 158 | 282 => 159 | 287 => 161 | 316 => 162 | 171 => 141 | 205 => 163 | 321 => 168 | 322 => 169 | 243 => 152 | 246 => 160 | 283 => 164 | 284 => 165 | 285 => 166 | 286 => 167 | 129 => 171 | 317 => 170 | 318 => 172 | 319 => 173 | 320 => 174 | 337 => 175 | 338 => 176 | n => n, fun | 9 => 9 | 3 => 3 | 75 => 55 | 76 => 56 | 4 => 4 | 5 => 5 | 167 => 132 | 37 => 51 | 0 => 0 | 85 => 133 | 2 => 2 | 168 => 135 | 53 => 139 | 175 => 140 | 46 => 125 | 210 => 143 | 127 => 91 | 145 => 153 | 143 => 151 | 21 => 21 | 171 => 145 | 173 => 148 | 212 => 155 | 51 => 129 | 20 => 20 | 213 => 156 | 232 => 160 | 233 => 161 | 80 => 59 | n => n, fun | 15 => 2 | 16 => 3 | 17 => 4 | 18 => 5 | 19 => 6 | n => n⟩
theorem Tryz.laysC172 : Go.Proofs.LaysC.n172 Tryz.prog Tryz.laysC172_ren := {
  mixed := by kernel_rfl
  f129 := Tryz.func171.trans (congrArg some (by kernel_rfl))
  f171 := Tryz.func141.trans (congrArg some (by kernel_rfl))
  f172 := Tryz.func140.trans (congrArg some (by kernel_rfl))
  f205 := Tryz.func163.trans (congrArg some (by kernel_rfl))
  f243 := Tryz.func152.trans (congrArg some (by kernel_rfl))
  f244 := Tryz.func150.trans (congrArg some (by kernel_rfl))
  f245 := Tryz.func151.trans (congrArg some (by kernel_rfl))
  f246 := Tryz.func160.trans (congrArg some (by kernel_rfl))
  f247 := Tryz.func155.trans (congrArg some (by kernel_rfl))
  f279 := Tryz.func156.trans (congrArg some (by kernel_rfl))
  f280 := Tryz.func157.trans (congrArg some (by kernel_rfl))
  f281 := Tryz.func158.trans (congrArg some (by kernel_rfl))
  f282 := Tryz.func159.trans (congrArg some (by kernel_rfl))
  f283 := Tryz.func164.trans (congrArg some (by kernel_rfl))
  f284 := Tryz.func165.trans (congrArg some (by kernel_rfl))
  f285 := Tryz.func166.trans (congrArg some (by kernel_rfl))
  f286 := Tryz.func167.trans (congrArg some (by kernel_rfl))
  f287 := Tryz.func161.trans (congrArg some (by kernel_rfl))
  f316 := Tryz.func162.trans (congrArg some (by kernel_rfl))
  f317 := Tryz.func170.trans (congrArg some (by kernel_rfl))
  f318 := Tryz.func172.trans (congrArg some (by kernel_rfl))
  f319 := Tryz.func173.trans (congrArg some (by kernel_rfl))
  f320 := Tryz.func174.trans (congrArg some (by kernel_rfl))
  f321 := Tryz.func168.trans (congrArg some (by kernel_rfl))
  f322 := Tryz.func169.trans (congrArg some (by kernel_rfl))
  f337 := Tryz.func175.trans (congrArg some (by kernel_rfl))
  f338 := Tryz.func176.trans (congrArg some (by kernel_rfl))
  t0 := Tryz.underlying0
  a0 := Tryz.isAgg0
  z0 := Tryz.sizeOf0
  v0 := Tryz.zeroValue0
  t2 := Tryz.underlying2
  a2 := Tryz.isAgg2
  z2 := Tryz.sizeOf2
  v2 := Tryz.zeroValue2
  t3 := Tryz.underlying3
  a3 := Tryz.isAgg3
  z3 := Tryz.sizeOf3
  v3 := Tryz.zeroValue3
  t4 := Tryz.underlying4
  a4 := Tryz.isAgg4
  z4 := Tryz.sizeOf4
  v4 := Tryz.zeroValue4
  t5 := Tryz.underlying5
  a5 := Tryz.isAgg5
  z5 := Tryz.sizeOf5
  v5 := Tryz.zeroValue5
  t9 := Tryz.underlying9
  a9 := Tryz.isAgg9
  z9 := Tryz.sizeOf9
  v9 := Tryz.zeroValue9
  t20 := Tryz.underlying20
  a20 := Tryz.isAgg20
  z20 := Tryz.sizeOf20
  v20 := Tryz.zeroValue20
  t21 := Tryz.underlying21
  a21 := Tryz.isAgg21
  z21 := Tryz.sizeOf21
  v21 := Tryz.zeroValue21
  t37 := Tryz.underlying51
  a37 := Tryz.isAgg51
  z37 := Tryz.sizeOf51
  v37 := Tryz.zeroValue51
  t46 := Tryz.underlying125
  a46 := Tryz.isAgg125
  z46 := Tryz.sizeOf125
  v46 := Tryz.zeroValue125
  t51 := Tryz.underlying129
  a51 := Tryz.isAgg129
  z51 := Tryz.sizeOf129
  v51 := Tryz.zeroValue129
  t53 := Tryz.underlying139
  a53 := Tryz.isAgg139
  z53 := Tryz.sizeOf139
  v53 := Tryz.zeroValue139
  t75 := Tryz.underlying55
  a75 := Tryz.isAgg55
  z75 := Tryz.sizeOf55
  v75 := Tryz.zeroValue55
  t76 := Tryz.underlying56
  a76 := Tryz.isAgg56
  z76 := Tryz.sizeOf56
  v76 := Tryz.zeroValue56
  t85 := Tryz.underlying133
  a85 := Tryz.isAgg133
  z85 := Tryz.sizeOf133
  v85 := Tryz.zeroValue133
  t127 := Tryz.underlying91
  a127 := Tryz.isAgg91
  z127 := Tryz.sizeOf91
  v127 := Tryz.zeroValue91
  t143 := Tryz.underlying151
  a143 := Tryz.isAgg151
  z143 := Tryz.sizeOf151
  v143 := Tryz.zeroValue151
  t145 := Tryz.underlying153
  a145 := Tryz.isAgg153
  z145 := Tryz.sizeOf153
  v145 := Tryz.zeroValue153
  t167 := Tryz.underlying132
  a167 := Tryz.isAgg132
  z167 := Tryz.sizeOf132
  v167 := Tryz.zeroValue132
  t168 := Tryz.underlying135
  a168 := Tryz.isAgg135
  z168 := Tryz.sizeOf135
  v168 := Tryz.zeroValue135
  t171 := Tryz.underlying145
  a171 := Tryz.isAgg145
  z171 := Tryz.sizeOf145
  v171 := Tryz.zeroValue145
  t173 := Tryz.underlying148
  a173 := Tryz.isAgg148
  z173 := Tryz.sizeOf148
  v173 := Tryz.zeroValue148
  t175 := Tryz.underlying140
  a175 := Tryz.isAgg140
  z175 := Tryz.sizeOf140
  v175 := Tryz.zeroValue140
  t210 := Tryz.underlying143
  a210 := Tryz.isAgg143
  z210 := Tryz.sizeOf143
  v210 := Tryz.zeroValue143
  t212 := Tryz.underlying155
  a212 := Tryz.isAgg155
  z212 := Tryz.sizeOf155
  v212 := Tryz.zeroValue155
  t213 := Tryz.underlying156
  a213 := Tryz.isAgg156
  z213 := Tryz.sizeOf156
  t232 := Tryz.underlying160
  a232 := Tryz.isAgg160
  z232 := Tryz.sizeOf160
  v232 := Tryz.zeroValue160
  t233 := Tryz.underlying161
  a233 := Tryz.isAgg161
  z233 := Tryz.sizeOf161
  v233 := Tryz.zeroValue161
  g15 := by kernel_rfl
  g16 := by kernel_rfl
  g17 := by kernel_rfl
  g18 := by kernel_rfl
  g19 := by kernel_rfl
  t80 := Tryz.underlying59
  a80 := Tryz.isAgg59
  z80 := Tryz.sizeOf59
  v80 := Tryz.zeroValue59
  i0 := by kernel_rfl
  i2 := by kernel_rfl
  i3 := by kernel_rfl
  i4 := by kernel_rfl
  i5 := by kernel_rfl
  i9 := by kernel_rfl
  i20 := by kernel_rfl
  i21 := by kernel_rfl
  i37 := by kernel_rfl
  i46 := by kernel_rfl
  i51 := by kernel_rfl
  i53 := by kernel_rfl
  i75 := by kernel_rfl
  i76 := by kernel_rfl
  i80 := by kernel_rfl
  i85 := by kernel_rfl
  i127 := by kernel_rfl
  i143 := by kernel_rfl
  i145 := by kernel_rfl
  i167 := by kernel_rfl
  i168 := by kernel_rfl
  i171 := by kernel_rfl
  i173 := by kernel_rfl
  i175 := by kernel_rfl
  i210 := by kernel_rfl
  i212 := by kernel_rfl
  i232 := by kernel_rfl
  i233 := by kernel_rfl
  m15 := by kernel_rfl
  m16 := by kernel_rfl
  m17 := by kernel_rfl
  m18 := by kernel_rfl
  m19 := by kernel_rfl
  c0 := by kernel_rfl
  c2 := by kernel_rfl
  c3 := by kernel_rfl
  c4 := by kernel_rfl
  c5 := by kernel_rfl
  c9 := by kernel_rfl
  c20 := by kernel_rfl
  c21 := by kernel_rfl
  c37 := by kernel_rfl
  c46 := by kernel_rfl
  c51 := by kernel_rfl
  c53 := by kernel_rfl
  c75 := by kernel_rfl
  c76 := by kernel_rfl
  c80 := by kernel_rfl
  c85 := by kernel_rfl
  c127 := by kernel_rfl
  c143 := by kernel_rfl
  c145 := by kernel_rfl
  c167 := by kernel_rfl
  c168 := by kernel_rfl
  c171 := by kernel_rfl
  c173 := by kernel_rfl
  c175 := by kernel_rfl
  c210 := by kernel_rfl
  c212 := by kernel_rfl
  c213 := by kernel_rfl
  c232 := by kernel_rfl
  c233 := by kernel_rfl }
open Go.RowKit in
/-- strconv.Atoi, AT EVERY STRING THAT SPELLS AN int ('Lib.atoiAll .. = .ok v'; of whatever length: leading zeros count): v, AND NO ERROR. The world: as it was, or with the one new row that '[]byte(..)' lays. (LAID: no walk: one application.) -/
theorem Tryz.strconv_Atoi_ok (s : ByteArray) (hmax : s.size ≤ 9223372036854775806) (v : Int) (h : Lib.atoiAll s.data.toList = .ok v) (w : World) :
    Calls Tryz.prog 140 #[.string s] w fun e w' => e = .returned (.tuple #[.int .i64 v, .nilIface]) ∧ (w' = w ∨ ∃ t, w' = Lib.bytesWorld w 5 t) := Any.strconv_Atoi_ok Tryz.laysC172 s hmax v h w
open Go.RowKit in
/-- strconv.Atoi, AT EVERY STRING THAT IS NO DECIMAL NUMERAL ('.syntax'): 0, AND AN ERROR THAT IS NOT nil: a *NumError in a new block N: {Func: "Atoi", Num: s's bytes, Err: what the variable ErrSyntax holds}. Of what was there nothing has turned. (LAID: no walk: one application.) -/
theorem Tryz.strconv_Atoi_syntax (s : ByteArray) (hlim : s.size ≤ 281474976710656) (h : Lib.atoiAll s.data.toList = .«syntax») (ev : Value) (w : World) (hv : w.cell? ⟨2, 0, none⟩ = some ev) (hev : ev = .nilIface ∨ ∃ te pe, ev = .iface te pe) :
    Calls Tryz.prog 140 #[.string s] w fun e w' => ∃ N, e = .returned (.tuple #[.int .i64 (0), .iface 135 (.pointer (some ⟨N, 0, none⟩))]) ∧ w.heap.size ≤ N ∧ w'.heap[N]? = some (.cells #[.string ⟨#[65, 116, 111, 105]⟩, .string s, ev] 143 (0, 0)) ∧ Below w.heap.size w w' := Any.strconv_Atoi_syntax Tryz.laysC172 s hlim h ev w hv hev
open Go.RowKit in
/-- strconv.Atoi, AT EVERY NUMERAL THAT NO int HOLDS ('.range'): THE GREATEST OR THE LEAST int, BY THE SIGN ('Lib.atoiSat'), AND AN ERROR THAT IS NOT nil: a *NumError in a new block N: {Func: "Atoi", Num: s's bytes, Err: what the variable ErrRange holds}. Of what was there nothing has turned. (LAID: no walk: one application.) -/
theorem Tryz.strconv_Atoi_range (s : ByteArray) (hlim : s.size ≤ 281474976710656) (h : Lib.atoiAll s.data.toList = .range) (ev : Value) (w : World) (hv : w.cell? ⟨3, 0, none⟩ = some ev) (hev : ev = .nilIface ∨ ∃ te pe, ev = .iface te pe) :
    Calls Tryz.prog 140 #[.string s] w fun e w' => ∃ N, e = .returned (.tuple #[.int .i64 (Lib.atoiSat s.data.toList), .iface 135 (.pointer (some ⟨N, 0, none⟩))]) ∧ w.heap.size ≤ N ∧ w'.heap[N]? = some (.cells #[.string ⟨#[65, 116, 111, 105]⟩, .string s, ev] 143 (0, 0)) ∧ Below w.heap.size w w' := Any.strconv_Atoi_range Tryz.laysC172 s hlim h ev w hv hev
def Tryz.lays217_ren : Go.Shelf.Ren := ⟨fun | 217 => 144 | 266 => 153 | n => n, fun | 9 => 9 | 5 => 5 | 3 => 3 | n => n, fun | n => n⟩
theorem Tryz.lays217 : Go.Proofs.Lays.n217 Tryz.prog Tryz.lays217_ren := {
  mixed := by kernel_rfl
  f217 := Tryz.func144.trans (congrArg some (by kernel_rfl))
  f266 := Tryz.func153.trans (congrArg some (by kernel_rfl))
  t3 := Tryz.underlying3
  a3 := Tryz.isAgg3
  z3 := Tryz.sizeOf3
  v3 := Tryz.zeroValue3
  t5 := Tryz.underlying5
  a5 := Tryz.isAgg5
  z5 := Tryz.sizeOf5
  v5 := Tryz.zeroValue5
  t9 := Tryz.underlying9
  a9 := Tryz.isAgg9
  z9 := Tryz.sizeOf9
  v9 := Tryz.zeroValue9 }
open Go.RowKit Go.Lib in
/-- internal/stringslite.IndexByte (what strings.IndexByte calls): IT RETURNS 'Lib.indexByte s c'; the world is as it was. (LAID: no walk: one application.) -/
theorem Tryz.stringslite_IndexByte (s : ByteArray) (c : Int) (w : World) :
    Calls Tryz.prog 144 #[.string s, .int .u8 c] w fun e w' => e = .returned (.int .i64 (Lib.indexByte s.data.toList c.toNat.toUInt8)) ∧ w' = w := Any.stringslite_IndexByte Tryz.lays217 s c w
def Tryz.lays219_ren : Go.Shelf.Ren := ⟨fun | 219 => 133 | 217 => 144 | 225 => 145 | 224 => 146 | 267 => 147 | 266 => 153 | 314 => 154 | n => n, fun | 9 => 9 | 3 => 3 | 4 => 4 | 5 => 5 | 46 => 125 | 146 => 130 | 51 => 129 | n => n, fun | 1 => 1 | n => n⟩
theorem Tryz.lays219 : Go.Proofs.Lays.n219 Tryz.prog Tryz.lays219_ren := {
  mixed := by kernel_rfl
  f217 := Tryz.func144.trans (congrArg some (by kernel_rfl))
  f219 := Tryz.func133.trans (congrArg some (by kernel_rfl))
  f224 := Tryz.func146.trans (congrArg some (by kernel_rfl))
  f225 := Tryz.func145.trans (congrArg some (by kernel_rfl))
  f266 := Tryz.func153.trans (congrArg some (by kernel_rfl))
  f267 := Tryz.func147.trans (congrArg some (by kernel_rfl))
  f314 := Tryz.func154.trans (congrArg some (by kernel_rfl))
  t3 := Tryz.underlying3
  a3 := Tryz.isAgg3
  z3 := Tryz.sizeOf3
  v3 := Tryz.zeroValue3
  t4 := Tryz.underlying4
  a4 := Tryz.isAgg4
  z4 := Tryz.sizeOf4
  v4 := Tryz.zeroValue4
  t5 := Tryz.underlying5
  a5 := Tryz.isAgg5
  z5 := Tryz.sizeOf5
  v5 := Tryz.zeroValue5
  t9 := Tryz.underlying9
  a9 := Tryz.isAgg9
  z9 := Tryz.sizeOf9
  v9 := Tryz.zeroValue9
  t46 := Tryz.underlying125
  a46 := Tryz.isAgg125
  z46 := Tryz.sizeOf125
  v46 := Tryz.zeroValue125
  t51 := Tryz.underlying129
  a51 := Tryz.isAgg129
  z51 := Tryz.sizeOf129
  v51 := Tryz.zeroValue129
  t146 := Tryz.underlying130
  a146 := Tryz.isAgg130
  z146 := Tryz.sizeOf130
  v146 := Tryz.zeroValue130
  g1 := by kernel_rfl }
open Go.RowKit Go.Lib in
/-- internal/stringslite.Index (what strings.Index calls) AT A substr OF ONE BYTE c: IT RETURNS 'Lib.indexByte s c'; the world is as it was. (LAID: no walk: one application.) -/
theorem Tryz.stringslite_Index_one (s : ByteArray) (c : UInt8) (w : World) :
    Calls Tryz.prog 133 #[.string s, .string ⟨#[c]⟩] w fun e w' => e = .returned (.int .i64 (Lib.indexByte s.data.toList c)) ∧ w' = w := Any.stringslite_Index_one Tryz.lays219 s c w
def Tryz.lays99_ren : Go.Shelf.Ren := ⟨fun | 99 => 59 | 206 => 96 | n => n, fun | 9 => 9 | 4 => 4 | 3 => 3 | n => n, fun | n => n⟩
theorem Tryz.lays99 : Go.Proofs.Lays.n99 Tryz.prog Tryz.lays99_ren := {
  mixed := by kernel_rfl
  f99 := Tryz.func59.trans (congrArg some (by kernel_rfl))
  f206 := Tryz.func96.trans (congrArg some (by kernel_rfl))
  t3 := Tryz.underlying3
  a3 := Tryz.isAgg3
  z3 := Tryz.sizeOf3
  v3 := Tryz.zeroValue3
  t4 := Tryz.underlying4
  a4 := Tryz.isAgg4
  z4 := Tryz.sizeOf4
  v4 := Tryz.zeroValue4
  t9 := Tryz.underlying9
  a9 := Tryz.isAgg9
  z9 := Tryz.sizeOf9
  v9 := Tryz.zeroValue9 }
open Go.RowKit Go.Lib in
/-- strings.HasPrefix: "HasPrefix reports whether the string s begins with prefix.": IT RETURNS 'Lib.hasPrefix s prefix'; the world is as it was. (LAID: no walk: one application.) -/
theorem Tryz.strings_HasPrefix (s p : ByteArray) (w : World) :
    Calls Tryz.prog 59 #[.string s, .string p] w fun e w' => e = .returned (.bool (Lib.hasPrefix s.data.toList p.data.toList)) ∧ w' = w := Any.strings_HasPrefix Tryz.lays99 s p w
end Go.Proofs
end
section
/- The contracts of (*strings.Builder).WriteByte and WriteString at this program, laid by hand out of the library's proofs. Conditions: as the library has them. -/
namespace Go.Proofs
open Go.Shelf
def Tryz.lays167_ren : Go.Shelf.Ren := ⟨fun | 240 => 53 | 276 => 87 | 167 => 33 | 166 => 32 | n => n, fun | 0 => 0 | 4 => 4 | 5 => 5 | 9 => 9 | 20 => 20 | 37 => 51 | 70 => 50 | 72 => 53 | 75 => 55 | 80 => 59 | 164 => 111 | 3 => 3 | n => n, fun | n => n⟩
theorem Tryz.lays167 : Go.Proofs.Lays.n167 Tryz.prog Tryz.lays167_ren := {
  mixed := by kernel_rfl
  f167 := Tryz.func33.trans (congrArg some (by kernel_rfl))
  f240 := Tryz.func53.trans (congrArg some (by kernel_rfl))
  f276 := Tryz.func87.trans (congrArg some (by kernel_rfl))
  t0 := Tryz.underlying0
  a0 := Tryz.isAgg0
  z0 := Tryz.sizeOf0
  v0 := Tryz.zeroValue0
  t4 := Tryz.underlying4
  a4 := Tryz.isAgg4
  z4 := Tryz.sizeOf4
  v4 := Tryz.zeroValue4
  t5 := Tryz.underlying5
  a5 := Tryz.isAgg5
  z5 := Tryz.sizeOf5
  v5 := Tryz.zeroValue5
  t9 := Tryz.underlying9
  a9 := Tryz.isAgg9
  z9 := Tryz.sizeOf9
  v9 := Tryz.zeroValue9
  t20 := Tryz.underlying20
  a20 := Tryz.isAgg20
  z20 := Tryz.sizeOf20
  v20 := Tryz.zeroValue20
  t37 := Tryz.underlying51
  a37 := Tryz.isAgg51
  z37 := Tryz.sizeOf51
  v37 := Tryz.zeroValue51
  t70 := Tryz.underlying50
  a70 := Tryz.isAgg50
  z70 := Tryz.sizeOf50
  v70 := Tryz.zeroValue50
  t72 := Tryz.underlying53
  a72 := Tryz.isAgg53
  z72 := Tryz.sizeOf53
  v72 := Tryz.zeroValue53
  t75 := Tryz.underlying55
  a75 := Tryz.isAgg55
  z75 := Tryz.sizeOf55
  v75 := Tryz.zeroValue55
  t164 := Tryz.underlying111
  a164 := Tryz.isAgg111
  z164 := Tryz.sizeOf111
  v164 := Tryz.zeroValue111 }
def Tryz.lays166_ren : Go.Shelf.Ren := ⟨fun | 240 => 53 | 276 => 87 | 167 => 33 | 166 => 32 | n => n, fun | 0 => 0 | 4 => 4 | 5 => 5 | 9 => 9 | 20 => 20 | 37 => 51 | 70 => 50 | 72 => 53 | 75 => 55 | 80 => 59 | 164 => 111 | 3 => 3 | n => n, fun | n => n⟩
theorem Tryz.lays166 : Go.Proofs.Lays.n166 Tryz.prog Tryz.lays166_ren := {
  mixed := by kernel_rfl
  f166 := Tryz.func32.trans (congrArg some (by kernel_rfl))
  f240 := Tryz.func53.trans (congrArg some (by kernel_rfl))
  f276 := Tryz.func87.trans (congrArg some (by kernel_rfl))
  t0 := Tryz.underlying0
  a0 := Tryz.isAgg0
  z0 := Tryz.sizeOf0
  v0 := Tryz.zeroValue0
  t3 := Tryz.underlying3
  a3 := Tryz.isAgg3
  z3 := Tryz.sizeOf3
  v3 := Tryz.zeroValue3
  t4 := Tryz.underlying4
  a4 := Tryz.isAgg4
  z4 := Tryz.sizeOf4
  v4 := Tryz.zeroValue4
  t9 := Tryz.underlying9
  a9 := Tryz.isAgg9
  z9 := Tryz.sizeOf9
  v9 := Tryz.zeroValue9
  t20 := Tryz.underlying20
  a20 := Tryz.isAgg20
  z20 := Tryz.sizeOf20
  v20 := Tryz.zeroValue20
  t37 := Tryz.underlying51
  a37 := Tryz.isAgg51
  z37 := Tryz.sizeOf51
  v37 := Tryz.zeroValue51
  t70 := Tryz.underlying50
  a70 := Tryz.isAgg50
  z70 := Tryz.sizeOf50
  v70 := Tryz.zeroValue50
  t72 := Tryz.underlying53
  a72 := Tryz.isAgg53
  z72 := Tryz.sizeOf53
  v72 := Tryz.zeroValue53
  t75 := Tryz.underlying55
  a75 := Tryz.isAgg55
  z75 := Tryz.sizeOf55
  v75 := Tryz.zeroValue55
  t164 := Tryz.underlying111
  a164 := Tryz.isAgg111
  z164 := Tryz.sizeOf111
  v164 := Tryz.zeroValue111 }
theorem Tryz.Builder_Extra_167 : Builder.Extra Tryz.prog Tryz.lays167_ren where
  sizeBuilder := by kernel_rfl
  liesBuilder := by kernel_rfl
  t5 := Tryz.underlying5
  a5 := Tryz.isAgg5
  z5 := Tryz.sizeOf5
  v5 := Tryz.zeroValue5
  infoByte := by kernel_rfl
  cellsByte := by kernel_rfl
  sizeByte := by kernel_rfl
  neB5 := by decide
theorem Tryz.Builder_Extra_166 : Builder.Extra Tryz.prog Tryz.lays166_ren where
  sizeBuilder := by kernel_rfl
  liesBuilder := by kernel_rfl
  t5 := Tryz.underlying5
  a5 := Tryz.isAgg5
  z5 := Tryz.sizeOf5
  v5 := Tryz.zeroValue5
  infoByte := by kernel_rfl
  cellsByte := by kernel_rfl
  sizeByte := by kernel_rfl
  neB5 := by decide
open Go.RowKit in
theorem Tryz.Builder_WriteByte_k (B b : Nat) (bs : List Value) (c : Int) (w : World) (h : Lib.IsBuilderF 53 5 B b bs w) (hlen : bs.length + 1 ≤ 140737488355328) (hBw : B ≤ w.heap.size) :
    Calls Tryz.prog 33 #[.pointer (some ⟨b, 0, none⟩), .int .u8 c] w fun e w' => e = .returned .nilIface ∧ (Lib.BuilderAtF 53 5 B b (.pointer (some ⟨b, 0, none⟩)) (bs ++ [.int .u8 c]) w' ∧ Below B w w' ∧ Lib.OthersKept 5 (some b) w w') := Any.Builder_WriteByte_k Tryz.lays167 Tryz.Builder_Extra_167 B b bs c w h hlen hBw
open Go.RowKit in
theorem Tryz.Builder_WriteString_k (B b : Nat) (bs : List Value) (s : ByteArray) (w : World) (h : Lib.IsBuilderF 53 5 B b bs w) (hlen : bs.length + s.size ≤ 140737488355328) (hBw : B ≤ w.heap.size) :
    Calls Tryz.prog 32 #[.pointer (some ⟨b, 0, none⟩), .string s] w fun e w' => e = .returned (.tuple #[.int .i64 s.size, .nilIface]) ∧ (Lib.BuilderAtF 53 5 B b (.pointer (some ⟨b, 0, none⟩)) (bs ++ Lib.strCells s) w' ∧ Below B w w' ∧ Lib.OthersKept 5 (some b) w w') := Any.Builder_WriteString_k Tryz.lays166 Tryz.Builder_Extra_166 B b bs s w h hlen hBw
end Go.Proofs
end
section
/- What the statements' rows list, as the walks want it: the table of powers of ten, the digits of an escape, the two errors of strconv, the cell that holds the greatest length of a search. -/
namespace Go.Proofs.YtnblabfkkcohgaaGreatDoor.Given
open Go Go.Shelf Go.RowKit Go.Proofs.YtnblabfkkcohgaaGreatDoorW.PrintWords

theorem glob : Tryz.prog.globalNamed "internal/strconv.uint64pow10" = some 4 := by kernel_rfl
/-- The library's and the program's tables lie as they are laid. -/
structure LaidW (w : World) : Prop where
  out : Lib.TabIs Tryz.prog w "internal/strconv.uint64pow10" .u64 Lib.pow10Tab
  dig : ∀ i : Nat, i < 8 → w.cell? ⟨0, i, none⟩ = some (.int .u8 (48 + i))
  len : ∃ m : Int, w.cell? ⟨1, 0, none⟩ = some (.int .i64 m)
  syn : ∃ ev, w.cell? ⟨2, 0, none⟩ = some ev ∧ (ev = .nilIface ∨ ∃ te pe, ev = .iface te pe)
  rng : ∃ ev, w.cell? ⟨3, 0, none⟩ = some ev ∧ (ev = .nilIface ∨ ∃ te pe, ev = .iface te pe)
theorem LaidW.lt {w : World} (h : LaidW w) : 4 < w.heap.size := by
  have h0 := h.out
  unfold Lib.TabIs World.var? at h0
  rw [glob] at h0
  simp only [Option.bind_some] at h0
  rcases Nat.lt_or_ge 4 w.heap.size with hl | hl
  · exact hl
  · have hn : w.heap[4]? = none := Array.getElem?_eq_none hl
    rw [hn] at h0
    simp at h0
theorem LaidW.kept {w w' : World} (h : LaidW w) {B : Nat} (hB : 4 < B) (hb : Below B w w') : LaidW w' := by
  have hc : ∀ {k i : Nat} {v : Value}, k < 5 → w.cell? ⟨k, i, none⟩ = some v → w'.cell? ⟨k, i, none⟩ = some v := fun {k i v} hk hv => by
    unfold World.cell? at hv ⊢
    simp only at hv ⊢
    rw [hb.block k (by omega)]
    exact hv
  refine ⟨?_, fun i hi => hc (by omega) (h.dig i hi), ?_, ?_, ?_⟩
  · have h0 := h.out
    unfold Lib.TabIs World.var? at h0 ⊢
    rw [glob] at h0 ⊢
    simp only [Option.bind_some] at h0 ⊢
    rw [hb.block 4 (by omega)]
    exact h0
  · obtain ⟨m, hm⟩ := h.len
    exact ⟨m, hc (by omega) hm⟩
  · obtain ⟨m, hm, h2⟩ := h.syn
    exact ⟨m, hc (by omega) hm, h2⟩
  · obtain ⟨m, hm, h2⟩ := h.rng
    exact ⟨m, hc (by omega) hm, h2⟩
theorem LaidW.below {w w' : World} (h : LaidW w) (hb : Below w.heap.size w w') : LaidW w' := h.kept h.lt hb
def given_Itoa.f (a0 : Int) : Option ByteArray := if -9223372036854775808 ≤ a0 then if a0 ≤ 9223372036854775807 then some ⟨(Lib.itoa a0).toArray⟩ else none else none

theorem given_Itoa.calls (a0 : Int) (r : ByteArray) (w : World) (hL : LaidW w) (h : given_Itoa.f a0 = some r) :
    Calls Tryz.prog 141 #[.int .i64 a0] w fun e w' => e = .returned (.string r) ∧ Below w.heap.size w w' := by
  unfold given_Itoa.f at h
  by_cases h0 : -9223372036854775808 ≤ a0
  · rw [if_pos h0] at h
    by_cases h1 : a0 ≤ 9223372036854775807
    · rw [if_pos h1] at h
      obtain rfl := Option.some.inj h
      refine (Tryz.strconv_Itoa a0 h0 h1 w hL.out).mono ?_
      rintro e w' ⟨rfl, k, os, rfl⟩
      exact ⟨rfl, Lib.below_grow _ w (Nat.le_refl _) k os⟩
    · rw [if_neg h1] at h
      exact absurd h (by simp)
  · rw [if_neg h0] at h
    exact absurd h (by simp)

def given_IndexByte.f (a0 : ByteArray) (a1 : Int) : Option Int := some (Lib.indexByte a0.data.toList a1.toNat.toUInt8)
theorem given_IndexByte.calls (a0 : ByteArray) (a1 : Int) (r : Int) (w : World) (h : given_IndexByte.f a0 a1 = some r) :
    Calls Tryz.prog 143 #[.string a0, .int .u8 a1] w fun e w' => e = .returned (.int .i64 r) ∧ Drawn0 w w' := by
  obtain rfl := Option.some.inj h
  refine (Tryz.strings_IndexByte a0 a1 w).mono ?_
  rintro e w' ⟨rfl, rfl⟩
  exact ⟨rfl, Drawn0.refl _⟩

end Go.Proofs.YtnblabfkkcohgaaGreatDoor.Given
end
section
/- The program's escapes, walked: must, put, Escape. Conditions: the tables lie as they are laid, the text has at most 2^40 bytes. -/
namespace Go.Proofs.YtnblabfkkcohgaaGreatDoor.Wire
set_option linter.unusedVariables false
set_option linter.unusedSimpArgs false
open Go Go.Shelf Go.RowKit Go.Proofs.YtnblabfkkcohgaaGreatDoor.Given Go.Proofs.YtnblabfkkcohgaaGreatDoorW.PrintWords Go.Proofs.YtnblabfkkcohgaaGreatDoorW.PrintLast

def mustN (x : UInt8) : Bool := decide ((x.toNat : Int) < 32) || ((x.toNat : Int) == 92)
theorem must_calls (x : UInt8) (w : World) : Calls Tryz.prog 88 #[.int .u8 x.toNat] w fun e w' => e = .returned (.bool (mustN x)) ∧ w' = w := by
  unfold mustN
  go_enter Tryz.func88, Tryz.ntmps88
  by_cases h : (x.toNat : Int) < 32
  · have hb : decide ((x.toNat : Int) < 32) = true := decide_eq_true h
    go_wp2
    all_goals go_returns
    all_goals exact ⟨by simp [hb], rfl⟩
  · have hb : decide ((x.toNat : Int) < 32) = false := decide_eq_false h
    go_wp2
    all_goals go_returns
    all_goals exact ⟨by simp [hb], rfl⟩

/-- A cell of the lowest blocks. -/
theorem cell_low {w w' : World} {B i : Nat} {v : Value} (hb : Below B w w') (hB : 4 < B) (h : w.cell? ⟨0, i, none⟩ = some v) : w'.cell? ⟨0, i, none⟩ = some v := by
  unfold World.cell? at h ⊢
  simp only at h ⊢
  rw [hb.block 0 (by omega)]
  exact h
theorem below_tr {B : Nat} {a b c : World} (h : Below B a b) (k : Below B b c) : Below B a c :=
  ⟨k.os.trans h.os, k.tape.trans h.tape, k.output.trans h.output, Nat.le_trans h.size k.size, fun i hi => (k.block i hi).trans (h.block i hi)⟩
/-- A builder that is being written since w0: its bytes; what lies below B is as it was, and above it all but bytes. -/
structure Wr (B b : Nat) (bs : List Value) (w0 w : World) : Prop where
  is : Lib.IsBuilderF 53 5 B b bs w
  below : Below B w0 w
  others : Lib.OthersKept 5 (some b) w0 w
  base : B ≤ w.heap.size
theorem wb {B b : Nat} {bs : List Value} {w0 w : World} (h : Wr B b bs w0 w) (c : Int) (hlen : bs.length + 1 ≤ 140737488355328) :
    Calls Tryz.prog 33 #[.pointer (some ⟨b, 0, none⟩), .int .u8 c] w fun e w' => e = .returned .nilIface ∧ Wr B b (bs ++ [.int .u8 c]) w0 w' := by
  refine (Tryz.Builder_WriteByte_k B b bs c w h.is hlen h.base).mono ?_
  rintro e w' ⟨rfl, h1, hb, ho⟩
  exact ⟨rfl, .inr h1, below_tr h.below hb, h.others.trans ho, Nat.le_trans h.base hb.size⟩
theorem ws {B b : Nat} {bs : List Value} {w0 w : World} (h : Wr B b bs w0 w) (s : ByteArray) (hlen : bs.length + s.size ≤ 140737488355328) :
    Calls Tryz.prog 32 #[.pointer (some ⟨b, 0, none⟩), .string s] w fun e w' => e = .returned (.tuple #[.int .i64 s.size, .nilIface]) ∧ Wr B b (bs ++ Lib.strCells s) w0 w' := by
  refine (Tryz.Builder_WriteString_k B b bs s w h.is hlen h.base).mono ?_
  rintro e w' ⟨rfl, h1, hb, ho⟩
  exact ⟨rfl, .inr h1, below_tr h.below hb, h.others.trans ho, Nat.le_trans h.base hb.size⟩
theorem wstr {B b : Nat} {l : List UInt8} {w0 w : World} (h : Wr B b (Lib.byteCells l) w0 w) :
    Calls Tryz.prog 34 #[.pointer (some ⟨b, 0, none⟩)] w fun e w' => e = .returned (.string ⟨l.toArray⟩) ∧ Below B w0 w' := by
  refine (Tryz.Builder_String_any_f B b l w h.is h.base).mono ?_
  rintro e w' ⟨rfl, _, hb⟩
  exact ⟨rfl, below_tr h.below hb⟩
theorem len1 {bs : List Value} {v : Value} {n m : Nat} (h : bs.length = n) (hm : m = n + 1) : (bs ++ [v]).length = m := by rw [List.length_append, h, hm]; rfl

set_option maxHeartbeats 1600000 in
theorem put_calls {B b : Nat} {bs : List Value} {w0 w : World} (h : Wr B b bs w0 w) (x : UInt8) (hlen : bs.length + 4 ≤ 140737488355328) (hL : LaidW w0) (hB : 4 < B) :
    Calls Tryz.prog 89 #[.pointer (some ⟨b, 0, none⟩), .int .u8 x.toNat] w fun e w' => e = .returned (.tuple #[]) ∧ Wr B b (bs ++ [.int .u8 92, .int .u8 (48 + (x.toNat : Int) / 64), .int .u8 (48 + (x.toNat : Int) / 8 % 8), .int .u8 (48 + (x.toNat : Int) % 8)]) w0 w' := by
  have hx : x.toNat < 256 := x.toNat_lt
  have e1 : x.toNat / 64 < 8 := by omega
  have e1' : (x.toNat : Int) / 64 < 8 := by omega
  have HLB := Lib.hid hB
  have HW := Lib.hid h
  have HLEN := Lib.hid hlen
  have HD1 := Lib.hid (hL.dig (x.toNat / 64) e1)
  have HD2 := Lib.hid (hL.dig (x.toNat / 8 % 8) (by omega))
  have HD3 := Lib.hid (hL.dig (x.toNat % 8) (by omega))
  clear h hlen
  go_enter Tryz.func89, Tryz.ntmps89
  go_wp2_with (first | ((go_at_call 33); (with_reducible refine (wb HW3.out _ (by have := HLEN.out; simp only [List.length_append, List.length_cons, List.length_nil]; omega)).mono ?_); rintro e w4 ⟨rfl, h1⟩; have HW4 := Lib.hid h1; clear h1) | ((go_at_call 33); (with_reducible refine (wb HW2.out _ (by have := HLEN.out; simp only [List.length_append, List.length_cons, List.length_nil]; omega)).mono ?_); rintro e w3 ⟨rfl, h1⟩; have HW3 := Lib.hid h1; have q3 := cell_low h1.below HLB.out HD3.out; clear h1) | ((go_at_call 33); (with_reducible refine (wb HW1.out _ (by have := HLEN.out; simp only [List.length_append, List.length_cons, List.length_nil]; omega)).mono ?_); rintro e w2 ⟨rfl, h1⟩; have HW2 := Lib.hid h1; have q2 := cell_low h1.below HLB.out HD2.out; clear h1) | ((go_at_call 33); (with_reducible refine (wb HW.out _ (by have := HLEN.out; omega)).mono ?_); rintro e w1 ⟨rfl, h1⟩; have HW1 := Lib.hid h1; have q1 := cell_low h1.below HLB.out HD1.out; clear h1))
  all_goals go_returns
  all_goals exact ⟨rfl, by
    have h4 := HW4.out
    simpa using h4⟩
end Go.Proofs.YtnblabfkkcohgaaGreatDoor.Wire
end
section
/- The program's Escape, walked: what it writes for a text. Conditions: the tables lie as they are laid, the text has at most 2^40 bytes. -/
namespace Go.Proofs.YtnblabfkkcohgaaGreatDoor.Wire
set_option linter.unusedVariables false
set_option linter.unusedSimpArgs false
open Go Go.Shelf Go.RowKit Go.Proofs.YtnblabfkkcohgaaGreatDoor.Given Go.Proofs.YtnblabfkkcohgaaGreatDoorW.PrintWords Go.Proofs.YtnblabfkkcohgaaGreatDoorW.PrintLast

theorem wrap_in {i : Int} (h0 : -9223372036854775808 ≤ i) (h1 : i ≤ 9223372036854775807) : wrap64 i = i := by
  unfold wrap64
  omega
/-- A text of bytes. -/
def ofL (l : List UInt8) : ByteArray := ⟨l.toArray⟩
theorem ofL_size (l : List UInt8) : (ofL l).size = l.length := by simp [ofL, ByteArray.size]
theorem ofL_append (a b : List UInt8) : ofL a ++ ofL b = ofL (a ++ b) := by
  apply ByteArray.ext
  simp [ofL]
theorem ofL_list (s : ByteArray) : ofL s.data.toList = s := by
  apply ByteArray.ext
  simp [ofL]
theorem ofL_toList (l : List UInt8) : (ofL l).toList = l := by rw [ByteArray.toList_eq]; simp [ofL]
theorem ofL_data (l : List UInt8) : (ofL l).data.toList = l := by simp [ofL]
theorem ofL_extract (l : List UInt8) (i j : Nat) : (ofL l).extract i j = ofL ((l.drop i).take (j - i)) := by
  apply ByteArray.ext
  simp [ofL, List.extract_eq_take_drop]
theorem dlen (s : ByteArray) : s.data.toList.length = s.size := by rw [Array.length_toList]; rfl
theorem toList_inj {a b : ByteArray} (h : a.toList = b.toList) : a = b := by
  rw [ByteArray.toList_eq, ByteArray.toList_eq] at h
  cases a; cases b
  congr
  exact Array.toList_inj.1 h

theorem others_new {e : TypeId} {b : Option Nat} {w w1 : World} (h : Below w.heap.size w w1) : Lib.OthersKept e b w w1 := fun k o hk _ _ => by
  rw [h.block k (blk_lt hk)]
  exact hk
/-- A builder as it is made. -/
theorem wr_new {w w1 : World} {g : Nat} (hg : w.heap.size ≤ g) (hb : Below w.heap.size w w1) (hk : w1.heap[g]? = some (.cells #[.pointer none, .slice none 0 0] 53 (0, 0))) : Wr w.heap.size g (Lib.byteCells []) w w1 :=
  ⟨.inl ⟨hg, _, hk, World.ownsRowF_nil _ _ _ _, by simp [Value.ownBlock]⟩, hb, others_new hb, hb.size⟩

/-- How a byte is written. -/
def escB (x : UInt8) : List UInt8 := if mustN x then [92, UInt8.ofNat (48 + x.toNat / 64), UInt8.ofNat (48 + x.toNat / 8 % 8), UInt8.ofNat (48 + x.toNat % 8)] else [x]
def escL (l : List UInt8) : List UInt8 := l.flatMap escB
theorem escL_append (a b : List UInt8) : escL (a ++ b) = escL a ++ escL b := List.flatMap_append
theorem escB_len (x : UInt8) : (escB x).length ≤ 4 := by unfold escB; split <;> simp
theorem escL_len (l : List UInt8) : (escL l).length ≤ 4 * l.length := by
  induction l with
  | nil => simp [escL]
  | cons x l ih =>
    have h := escB_len x
    rw [show escL (x :: l) = escB x ++ escL l from List.flatMap_cons, List.length_append, List.length_cons]
    omega
theorem escB_cells {x : UInt8} (h : mustN x = true) : Lib.byteCells (escB x) = [.int .u8 92, .int .u8 (48 + (x.toNat : Int) / 64), .int .u8 (48 + (x.toNat : Int) / 8 % 8), .int .u8 (48 + (x.toNat : Int) % 8)] := by
  have hx : x.toNat < 256 := x.toNat_lt
  unfold escB
  rw [if_pos h]
  simp only [Lib.byteCells, List.map_cons, List.map_nil, UInt8.toNat_ofNat']
  have a1 : (48 + x.toNat / 64) % 2 ^ 8 = 48 + x.toNat / 64 := by omega
  have a2 : (48 + x.toNat / 8 % 8) % 2 ^ 8 = 48 + x.toNat / 8 % 8 := by omega
  have a3 : (48 + x.toNat % 8) % 2 ^ 8 = 48 + x.toNat % 8 := by omega
  rw [a1, a2, a3]
  simp
theorem take_esc (s : ByteArray) (i : Nat) (hi : i < s.size) : escL (s.data.toList.take (i + 1)) = escL (s.data.toList.take i) ++ escB s[i] := by
  rw [List.take_succ_eq_append_getElem (by rw [dlen]; exact hi), escL_append]
  congr 1
  show escB _ ++ [] = _
  rw [List.append_nil]
  congr 1

theorem esc_yes {B b : Nat} {a c : List UInt8} {x : UInt8} {w0 w : World} (he : a = c ++ escB x) (hm : mustN x = true) (h : Wr B b (Lib.byteCells c ++ [.int .u8 92, .int .u8 (48 + (x.toNat : Int) / 64), .int .u8 (48 + (x.toNat : Int) / 8 % 8), .int .u8 (48 + (x.toNat : Int) % 8)]) w0 w) : Wr B b (Lib.byteCells a) w0 w := by
  rw [he, Lib.byteCells_append, escB_cells hm]
  exact h
theorem esc_no {B b : Nat} {a c : List UInt8} {x : UInt8} {w0 w : World} (he : a = c ++ escB x) (hm : mustN x = false) (h : Wr B b (Lib.byteCells c ++ [.int .u8 x.toNat]) w0 w) : Wr B b (Lib.byteCells a) w0 w := by
  rw [he, Lib.byteCells_append]
  unfold escB
  rw [if_neg (by rw [hm]; simp)]
  exact h
set_option maxHeartbeats 3200000 in
theorem escape_calls {w : World} (hL : LaidW w) (s : ByteArray) (hs : s.size ≤ 1099511627776) :
    Calls Tryz.prog 54 #[.string s] w fun e w' => e = .returned (.string (ofL (escL s.data.toList))) ∧ Below w.heap.size w w' := by
  have HL := Lib.hid hL
  have HS := Lib.hid hs
  clear hL hs
  go_enter Tryz.func54, Tryz.ntmps54
  go_wp2_with ((with_reducible refine gate_dst (N := 3) rfl ?_); refine box_event ?hg (N := 3) ?hd (cs := #[.pointer none, .slice none 0 0]) (t := 53) ?hr ?_; (case hd => rfl); (case hg => rfl); (case hr => first | (go_simp; done) | (go_simp; rfl)); intro gb hgb w1 hbox hbb; have HW := Lib.hid (wr_new (by rw [hgb]; exact Nat.le_refl _) hbb hbox); clear hgb hbox hbb)
  (try simp only [Act.put, List.setIfInBounds_toArray, List.set_cons_zero, List.set_cons_succ])
  go_loopg [4] s.size (fun kq v4 w' => ∃ i : Nat, v4 = .int .i64 i ∧ Aside0 (i + kq = s.size) ∧ Aside0 (Wr w.heap.size gb (Lib.byteCells (escL (s.data.toList.take i))) w w'))
  case atStart => exact ⟨0, rfl, ⟨by omega⟩, ⟨HW.out⟩⟩
  case round =>
    obtain ⟨i, rfl, HI, HB⟩ := hrel
    by_cases hi : i < s.size
    · have hi' : (i : Int) < (s.size : Int) := by omega
      have hip : (0 : Int) ≤ (i : Int) := by omega
      have HLN : Aside0 ((Lib.byteCells (escL (s.data.toList.take i))).length ≤ 4398046511104) := ⟨by
        have h1 := escL_len (s.data.toList.take i)
        rw [List.length_take] at h1
        have h2 := HS.out
        simp only [Lib.byteCells, List.length_map]
        omega⟩
      have HTE := Lib.hid (take_esc s i hi)
      have HI2 := Lib.hid hi
      by_cases hm : mustN s[i] = true
      · have HM := Lib.hid hm
        go_wp2_with (first | ((go_at_call 88); (with_reducible refine (must_calls _ _).mono ?_); rintro e w2 ⟨rfl, hw⟩; rw [hw]; clear hw) | ((go_at_call 89); (with_reducible refine (put_calls HB.out _ (by have := HLN.out; omega) HL.out HL.out.lt).mono ?_); rintro e w3 ⟨rfl, h⟩; have HB3 := Lib.hid h; clear h) | ((go_at_call 33); exact absurd HM.out (Bool.eq_false_iff.1 (by assumption))))
        go_roundg (s.size - i - 1)
        case measure => have := HI.out; have := HI2.out; omega
        case rel =>
          have h2 := HS.out
          have h3 := HI2.out
          exact ⟨i + 1, by first | rfl | (rw [wrap_in (by omega) (by omega)]; rfl), ⟨by omega⟩, ⟨esc_yes HTE.out HM.out HB3.out⟩⟩
      · have hm' : mustN s[i] = false := by simpa using hm
        have HM := Lib.hid hm'
        go_wp2_with (first | ((go_at_call 88); (with_reducible refine (must_calls _ _).mono ?_); rintro e w2 ⟨rfl, hw⟩; rw [hw]; clear hw) | ((go_at_call 33); (with_reducible refine (wb HB.out _ (by have := HLN.out; omega)).mono ?_); rintro e w3 ⟨rfl, h⟩; have HB3 := Lib.hid h; clear h))
        go_roundg (s.size - i - 1)
        case measure => have := HI.out; have := HI2.out; omega
        case rel =>
          have h2 := HS.out
          have h3 := HI2.out
          exact ⟨i + 1, by first | rfl | (rw [wrap_in (by omega) (by omega)]; rfl), ⟨by omega⟩, ⟨esc_no HTE.out HM.out HB3.out⟩⟩
    · have hin : ¬ (i : Int) < (s.size : Int) := by omega
      have HE : Aside0 (s.data.toList.take i = s.data.toList) := ⟨List.take_of_length_le (by rw [dlen]; omega)⟩
      go_wp2_with ((go_at_call 34); (with_reducible refine (wstr HB.out).mono ?_); rintro e w2 ⟨rfl, hb⟩; have HB2 := Lib.hid hb; clear hb)
      all_goals go_returns
      all_goals exact ⟨by rw [HE.out]; rfl, HB2.out⟩
end Go.Proofs.YtnblabfkkcohgaaGreatDoor.Wire
end
section
/- The program's read and Unescape, walked. Conditions: the tables lie as they are laid, the text has at most 2^40 bytes. -/
namespace Go.Proofs.YtnblabfkkcohgaaGreatDoor.Wire
set_option linter.unusedVariables false
set_option linter.unusedSimpArgs false
open Go Go.Shelf Go.RowKit Go.Proofs.YtnblabfkkcohgaaGreatDoor.Given Go.Proofs.YtnblabfkkcohgaaGreatDoorW.PrintWords Go.Proofs.YtnblabfkkcohgaaGreatDoorW.PrintLast

/-- An octal digit. -/
def oct (x : UInt8) : Bool := decide (48 ≤ x.toNat) && decide (x.toNat ≤ 55)
def readN : List UInt8 → UInt8 × Bool
  | b :: a :: c :: d :: _ => if b.toNat = 92 ∧ oct a = true ∧ oct c = true ∧ oct d = true then
      (UInt8.ofNat (64 * (a.toNat - 48) + 8 * (c.toNat - 48) + (d.toNat - 48)), decide (64 * (a.toNat - 48) + 8 * (c.toNat - 48) + (d.toNat - 48) < 256)) else (0, false)
  | _ => (0, false)
theorem four (s : ByteArray) (h : 4 ≤ s.size) : ∃ r, s.data.toList = s[0] :: s[1] :: s[2] :: s[3] :: r := by
  obtain ⟨⟨l⟩⟩ := s
  have h : 4 ≤ l.length := h
  match l, h with
  | a :: b :: c :: d :: r, _ => exact ⟨r, rfl⟩

theorem dig2 (a b : Nat) (ha : a ≤ 7) (h1 : 48 ≤ b) (h2 : b ≤ 55) : wrap64 (wrap64 (8 * (a : Int)) + ((b : Int) - 48)) = ((8 * a + (b - 48) : Nat) : Int) := by unfold wrap64; omega
theorem dig3 (a b c : Nat) (ha : a ≤ 7) (hb : b ≤ 7) (h1 : 48 ≤ c) (h2 : c ≤ 55) : wrap64 (wrap64 (8 * (8 * (a : Int) + (b : Int))) + ((c : Int) - 48)) = ((64 * a + 8 * b + (c - 48) : Nat) : Int) := by unfold wrap64; omega
theorem read_end (n : Nat) : Ending.returned (.tuple #[.int .u8 ((n : Int) % 256), .bool (decide ((n : Int) < 256))]) = Ending.returned (.tuple #[.int .u8 ((UInt8.ofNat n).toNat : Nat), .bool (decide (n < 256))]) := by
  rw [UInt8.toNat_ofNat', show decide ((n : Int) < 256) = decide (n < 256) by rw [Bool.eq_iff_iff, decide_eq_true_eq, decide_eq_true_eq]; omega]
  simp
theorem readN_four (b a c d : UInt8) (r : List UInt8) : readN (b :: a :: c :: d :: r) = if b.toNat = 92 ∧ oct a = true ∧ oct c = true ∧ oct d = true then
    (UInt8.ofNat (64 * (a.toNat - 48) + 8 * (c.toNat - 48) + (d.toNat - 48)), decide (64 * (a.toNat - 48) + 8 * (c.toNat - 48) + (d.toNat - 48) < 256)) else (0, false) := rfl
set_option maxHeartbeats 3200000 in
theorem read_calls (s : ByteArray) (w : World) : Calls Tryz.prog 97 #[.string s] w fun e w' => e = .returned (.tuple #[.int .u8 (readN s.data.toList).1.toNat, .bool (readN s.data.toList).2]) ∧ w' = w := by
  by_cases h4 : 4 ≤ s.size
  · obtain ⟨r, hr⟩ := four s h4
    have h4' : ¬ (s.size : Int) < 4 := by omega
    have h0 : 0 < s.size := by omega
    have h1 : 1 < s.size := by omega
    have h2 : 2 < s.size := by omega
    have h3 : 3 < s.size := by omega
    by_cases hb : ((s[0].toNat : Int) == 92) = true
    · have HB92 : Aside0 (s[0].toNat = 92) := ⟨by have := beq_iff_eq.1 hb; omega⟩
      have HHR := Lib.hid hr
      clear hr
      go_enter Tryz.func97, Tryz.ntmps97
      go_wp2
      go_loopg [4, 5] 3 (fun kq v4 v5 w' => ∃ i n : Nat, v5 = .int .i64 i ∧ v4 = .int .i64 n ∧ Aside0 (i + kq = 4) ∧ Aside0 (w' = w) ∧ Aside0 ((i = 1 ∧ n = 0) ∨ (i = 2 ∧ oct s[1] = true ∧ n = s[1].toNat - 48) ∨ (i = 3 ∧ oct s[1] = true ∧ oct s[2] = true ∧ n = 8 * (s[1].toNat - 48) + (s[2].toNat - 48)) ∨ (i = 4 ∧ oct s[1] = true ∧ oct s[2] = true ∧ oct s[3] = true ∧ n = 64 * (s[1].toNat - 48) + 8 * (s[2].toNat - 48) + (s[3].toNat - 48))))
      case atStart => exact ⟨1, 0, rfl, rfl, ⟨rfl⟩, ⟨rfl⟩, ⟨.inl ⟨rfl, rfl⟩⟩⟩
      case round =>
        obtain ⟨i, n, rfl, rfl, HI, HW, HC⟩ := hrel
        obtain ⟨HI⟩ := HI
        obtain ⟨rfl⟩ := HW
        rcases HC.out with ⟨rfl, rfl⟩ | ⟨rfl, o1, hn⟩ | ⟨rfl, o1, o2, hn⟩ | ⟨rfl, o1, o2, o3, hn⟩
        · by_cases ho : oct s[1] = true
          · have ho2 := ho
            unfold oct at ho2
            simp only [Bool.and_eq_true, decide_eq_true_eq] at ho2
            have g1 : ¬ ((s[1].toNat : Nat) : Int) < 48 := by omega
            have g2 : ¬ (55 : Int) < ((s[1].toNat : Nat) : Int) := by omega
            have HO := Lib.hid ho
            have HR := Lib.hid ho2
            clear ho2 ho
            go_wp2
            go_roundg (2)
            case measure => omega
            case rel => 
              have hr1 := HR.out
              exact ⟨1 + 1, s[1].toNat - 48, by first | rfl | (simp; done), by first | (exact congrArg _ (dig2 _ _ (by omega) (by omega) (by omega))) | (exact congrArg _ (dig3 _ _ _ (by omega) (by omega) (by omega) (by omega))) | (congr 1; omega), ⟨by omega⟩, ⟨rfl⟩, ⟨.inr (.inl ⟨rfl, HO.out, by omega⟩)⟩⟩
          · have ho2 : s[1].toNat < 48 ∨ 55 < s[1].toNat := by
              unfold oct at ho
              simp only [Bool.and_eq_true, decide_eq_true_eq] at ho
              omega
            have hz : readN s.data.toList = (0, false) := by rw [HHR.out, readN_four, if_neg]; rintro ⟨_, q1, q2, q3⟩; first | exact ho q1 | exact ho q2 | exact ho q3
            have HZ := Lib.hid hz
            clear hz ho
            rcases ho2 with ho2 | ho2
            · have g1 : ((s[1].toNat : Nat) : Int) < 48 := by omega
              go_wp2
              all_goals go_returns
              all_goals exact ⟨by rw [HZ.out]; rfl, rfl⟩
            · have g1 : ¬ ((s[1].toNat : Nat) : Int) < 48 := by omega
              have g2 : (55 : Int) < ((s[1].toNat : Nat) : Int) := by omega
              go_wp2
              all_goals go_returns
              all_goals exact ⟨by rw [HZ.out]; rfl, rfl⟩
        · by_cases ho : oct s[2] = true
          · have ho2 := ho
            unfold oct at ho2
            simp only [Bool.and_eq_true, decide_eq_true_eq] at ho2
            have g1 : ¬ ((s[2].toNat : Nat) : Int) < 48 := by omega
            have g2 : ¬ (55 : Int) < ((s[2].toNat : Nat) : Int) := by omega
            have HO := Lib.hid ho
            have HR := Lib.hid ho2
            clear ho2 ho
            go_wp2
            go_roundg (1)
            case measure => omega
            case rel => 
              have hr1 := HR.out
              have r1 := o1; unfold oct at r1; simp only [Bool.and_eq_true, decide_eq_true_eq] at r1
              exact ⟨2 + 1, 8 * (s[1].toNat - 48) + (s[2].toNat - 48), by first | rfl | (simp; done), by first | (exact congrArg _ (dig2 _ _ (by omega) (by omega) (by omega))) | (exact congrArg _ (dig3 _ _ _ (by omega) (by omega) (by omega) (by omega))) | (congr 1; omega), ⟨by omega⟩, ⟨rfl⟩, ⟨.inr (.inr (.inl ⟨rfl, o1, HO.out, by omega⟩))⟩⟩
          · have ho2 : s[2].toNat < 48 ∨ 55 < s[2].toNat := by
              unfold oct at ho
              simp only [Bool.and_eq_true, decide_eq_true_eq] at ho
              omega
            have hz : readN s.data.toList = (0, false) := by rw [HHR.out, readN_four, if_neg]; rintro ⟨_, q1, q2, q3⟩; first | exact ho q1 | exact ho q2 | exact ho q3
            have HZ := Lib.hid hz
            clear hz ho
            rcases ho2 with ho2 | ho2
            · have g1 : ((s[2].toNat : Nat) : Int) < 48 := by omega
              go_wp2
              all_goals go_returns
              all_goals exact ⟨by rw [HZ.out]; rfl, rfl⟩
            · have g1 : ¬ ((s[2].toNat : Nat) : Int) < 48 := by omega
              have g2 : (55 : Int) < ((s[2].toNat : Nat) : Int) := by omega
              go_wp2
              all_goals go_returns
              all_goals exact ⟨by rw [HZ.out]; rfl, rfl⟩
        · by_cases ho : oct s[3] = true
          · have ho2 := ho
            unfold oct at ho2
            simp only [Bool.and_eq_true, decide_eq_true_eq] at ho2
            have g1 : ¬ ((s[3].toNat : Nat) : Int) < 48 := by omega
            have g2 : ¬ (55 : Int) < ((s[3].toNat : Nat) : Int) := by omega
            have HO := Lib.hid ho
            have HR := Lib.hid ho2
            clear ho2 ho
            go_wp2
            go_roundg (0)
            case measure => omega
            case rel => 
              have hr1 := HR.out
              have r1 := o1; have r2 := o2; unfold oct at r1 r2; simp only [Bool.and_eq_true, decide_eq_true_eq] at r1 r2
              exact ⟨3 + 1, 64 * (s[1].toNat - 48) + 8 * (s[2].toNat - 48) + (s[3].toNat - 48), by first | rfl | (simp; done), by first | (exact congrArg _ (dig2 _ _ (by omega) (by omega) (by omega))) | (exact congrArg _ (dig3 _ _ _ (by omega) (by omega) (by omega) (by omega))) | (congr 1; omega), ⟨by omega⟩, ⟨rfl⟩, ⟨.inr (.inr (.inr ⟨rfl, o1, o2, HO.out, by omega⟩))⟩⟩
          · have ho2 : s[3].toNat < 48 ∨ 55 < s[3].toNat := by
              unfold oct at ho
              simp only [Bool.and_eq_true, decide_eq_true_eq] at ho
              omega
            have hz : readN s.data.toList = (0, false) := by rw [HHR.out, readN_four, if_neg]; rintro ⟨_, q1, q2, q3⟩; first | exact ho q1 | exact ho q2 | exact ho q3
            have HZ := Lib.hid hz
            clear hz ho
            rcases ho2 with ho2 | ho2
            · have g1 : ((s[3].toNat : Nat) : Int) < 48 := by omega
              go_wp2
              all_goals go_returns
              all_goals exact ⟨by rw [HZ.out]; rfl, rfl⟩
            · have g1 : ¬ ((s[3].toNat : Nat) : Int) < 48 := by omega
              have g2 : (55 : Int) < ((s[3].toNat : Nat) : Int) := by omega
              go_wp2
              all_goals go_returns
              all_goals exact ⟨by rw [HZ.out]; rfl, rfl⟩
        · have hz : readN s.data.toList = (UInt8.ofNat n, decide (n < 256)) := by rw [HHR.out, readN_four, if_pos ⟨HB92.out, o1, o2, o3⟩, hn]
          have HZ := Lib.hid hz
          have HN : Aside0 (n ≤ 511) := ⟨by have r1 := o1; have r2 := o2; have r3 := o3; unfold oct at r1 r2 r3; simp only [Bool.and_eq_true, decide_eq_true_eq] at r1 r2 r3; omega⟩
          clear hz hn o1 o2 o3
          go_wp2
          all_goals go_returns
          all_goals exact ⟨by rw [HZ.out]; exact read_end n, rfl⟩
    · have hb' : ((s[0].toNat : Int) == 92) = false := by simpa using hb
      have hz : readN s.data.toList = (0, false) := by
        rw [hr, readN_four, if_neg]; rintro ⟨q, _⟩; exact hb (by rw [beq_iff_eq]; omega)
      have HZ := Lib.hid hz
      clear hz hr
      go_enter Tryz.func97, Tryz.ntmps97
      go_wp2
      all_goals go_returns
      all_goals exact ⟨by rw [HZ.out]; rfl, rfl⟩
  · have h4' : (s.size : Int) < 4 := by omega
    have hz : readN s.data.toList = (0, false) := by
      have hl : s.data.toList.length < 4 := by rw [dlen]; omega
      generalize s.data.toList = l at hl
      match l, hl with
      | [], _ => rfl
      | [_], _ => rfl
      | [_, _], _ => rfl
      | [_, _, _], _ => rfl
    have HZ := Lib.hid hz
    clear hz
    go_enter Tryz.func97, Tryz.ntmps97
    go_wp2
    all_goals go_returns
    all_goals exact ⟨by rw [HZ.out]; rfl, rfl⟩
end Go.Proofs.YtnblabfkkcohgaaGreatDoor.Wire
end
section
/- The program's Unescape, EscapeBody, UnescapeBody, walked. Conditions: the tables lie as they are laid, the text has at most 2^40 bytes. -/
namespace Go.Proofs.YtnblabfkkcohgaaGreatDoor.Wire
set_option linter.unusedVariables false
set_option linter.unusedSimpArgs false
open Go Go.Shelf Go.RowKit Go.Proofs.YtnblabfkkcohgaaGreatDoor.Given Go.Proofs.YtnblabfkkcohgaaGreatDoorW.PrintWords Go.Proofs.YtnblabfkkcohgaaGreatDoorW.PrintLast

def unescF : Nat → List UInt8 → Option (List UInt8)
  | _, [] => some []
  | 0, _ => none
  | k + 1, x :: l => if mustN x = true then (if (readN (x :: l)).2 = true ∧ mustN (readN (x :: l)).1 = true then (unescF k (l.drop 3)).map ((readN (x :: l)).1 :: ·) else none) else (unescF k l).map (x :: ·)
def unescN (l : List UInt8) : Option (List UInt8) := unescF l.length l
theorem unescF_nil (k : Nat) : unescF k [] = some [] := by cases k <;> rfl
theorem unescF_more : ∀ (k : Nat) (l : List UInt8), l.length ≤ k → unescF k l = unescN l := by
  suffices h : ∀ (n k m : Nat) (l : List UInt8), l.length ≤ n → l.length ≤ k → l.length ≤ m → unescF k l = unescF m l from fun k l hl => h l.length k l.length l (Nat.le_refl _) hl (Nat.le_refl _)
  intro n
  induction n with
  | zero =>
    intro k m l hn _ _
    obtain rfl : l = [] := List.length_eq_zero_iff.1 (by omega)
    rw [unescF_nil, unescF_nil]
  | succ n ih =>
    intro k m l hn hk hm
    cases l with
    | nil => rw [unescF_nil, unescF_nil]
    | cons x l =>
      simp only [List.length_cons] at hn hk hm
      obtain ⟨k, rfl⟩ : ∃ j, k = j + 1 := ⟨k - 1, by omega⟩
      obtain ⟨m, rfl⟩ : ∃ j, m = j + 1 := ⟨m - 1, by omega⟩
      simp only [unescF]
      rw [ih k m l (by omega) (by omega) (by omega), ih k m (l.drop 3) (by simp; omega) (by simp; omega) (by simp; omega)]
/-- What Unescape tells: the text and the error's number. -/
def unescR (l : List UInt8) : List UInt8 × Int := match unescN l with
  | some t => (t, 0)
  | none => ([], 10)
theorem ext_drop (s : ByteArray) (i : Nat) : (s.extract i s.size).data.toList = s.data.toList.drop i := by
  have h := ofL_extract s.data.toList i s.size
  rw [ofL_list] at h
  rw [h, ofL_data]
  exact List.take_of_length_le (by rw [List.length_drop, dlen]; exact Nat.le_refl _)
theorem drop_at (s : ByteArray) (i : Nat) (hi : i < s.size) : s.data.toList.drop i = s[i] :: s.data.toList.drop (i + 1) := by
  have h2 : i < s.data.toList.length := by rw [dlen]; exact hi
  rw [List.drop_eq_getElem_cons h2]
  simp
  rfl
theorem readN_len {l : List UInt8} (h : (readN l).2 = true) : 4 ≤ l.length := by
  match l, h with
  | _ :: _ :: _ :: _ :: r, _ => simp
/-- Where the loop stands. -/
structure Un (s : ByteArray) (i : Nat) (done : List UInt8) : Prop where
  le : i ≤ s.size
  len : done.length ≤ i
  is : ∃ k, s.size - i ≤ k ∧ unescN s.data.toList = (unescF k (s.data.toList.drop i)).map (done ++ ·)
theorem un_new (s : ByteArray) : Un s 0 [] := ⟨Nat.zero_le _, Nat.le_refl _, s.data.toList.length, by rw [dlen]; exact Nat.le_refl _, by
  rw [List.drop_zero]
  show unescF _ _ = _
  cases unescF s.data.toList.length s.data.toList <;> rfl⟩
theorem Un.plain {s : ByteArray} {i : Nat} {done : List UInt8} (h : Un s i done) (hi : i < s.size) (hm : mustN s[i] = false) : Un s (i + 1) (done ++ [s[i]]) := by
  obtain ⟨k, hk, e⟩ := h.is
  obtain ⟨k, rfl⟩ : ∃ j, k = j + 1 := ⟨k - 1, by omega⟩
  refine ⟨by omega, by have := h.len; simp; omega, k, by omega, ?_⟩
  rw [e, drop_at s i hi]
  simp only [unescF]
  rw [if_neg (by rw [hm]; simp)]
  cases unescF k (s.data.toList.drop (i + 1)) with
  | none => rfl
  | some t => simp
theorem Un.esc {s : ByteArray} {i : Nat} {done : List UInt8} {c : UInt8} (h : Un s i done) (hi : i < s.size) (hm : mustN s[i] = true) (hr : readN (s.data.toList.drop i) = (c, true)) (hc : mustN c = true) : Un s (i + 4) (done ++ [c]) := by
  obtain ⟨k, hk, e⟩ := h.is
  have h4 := readN_len (l := s.data.toList.drop i) (by rw [hr])
  rw [List.length_drop, dlen] at h4
  obtain ⟨k, rfl⟩ : ∃ j, k = j + 1 := ⟨k - 1, by omega⟩
  refine ⟨by omega, by have := h.len; simp; omega, k, by omega, ?_⟩
  rw [e]
  rw [drop_at s i hi] at hr ⊢
  simp only [unescF]
  rw [if_pos hm, hr, if_pos ⟨rfl, hc⟩, List.drop_drop, show i + 1 + 3 = i + 4 by omega]
  cases unescF k (s.data.toList.drop (i + 4)) with
  | none => rfl
  | some t => simp
theorem Un.bad {s : ByteArray} {i : Nat} {done : List UInt8} {c : UInt8} {ok : Bool} (h : Un s i done) (hi : i < s.size) (hm : mustN s[i] = true) (hr : readN (s.data.toList.drop i) = (c, ok)) (hc : ¬ (ok = true ∧ mustN c = true)) : unescR s.data.toList = ([], 10) := by
  obtain ⟨k, hk, e⟩ := h.is
  obtain ⟨k, rfl⟩ : ∃ j, k = j + 1 := ⟨k - 1, by omega⟩
  have e2 : unescN s.data.toList = none := by
    rw [e]
    rw [drop_at s i hi] at hr ⊢
    simp only [unescF]
    rw [if_pos hm, hr, if_neg hc]
    rfl
  unfold unescR
  rw [e2]
theorem Un.fin {s : ByteArray} {i : Nat} {done : List UInt8} (h : Un s i done) (hi : ¬ i < s.size) : unescR s.data.toList = (done, 0) := by
  obtain ⟨k, hk, e⟩ := h.is
  have e2 : unescN s.data.toList = some done := by
    rw [e, List.drop_eq_nil_of_le (by rw [dlen]; omega), unescF_nil]
    simp
  unfold unescR
  rw [e2]

set_option maxHeartbeats 3200000 in
theorem unescape_calls {w : World} (hL : LaidW w) (s : ByteArray) (hs : s.size ≤ 1099511627776) :
    Calls Tryz.prog 60 #[.string s] w fun e w' => e = .returned (.tuple #[.string (ofL (unescR s.data.toList).1), .int .i64 (unescR s.data.toList).2]) ∧ Below w.heap.size w w' := by
  have HL := Lib.hid hL
  have HS := Lib.hid hs
  clear hL hs
  obtain ⟨R, HRR⟩ : ∃ R, Aside0 (unescR s.data.toList = R) := ⟨_, ⟨rfl⟩⟩
  rw [HRR.out]
  go_enter Tryz.func60, Tryz.ntmps60
  go_wp2_with ((with_reducible refine gate_dst (N := 4) rfl ?_); refine box_event ?hg (N := 4) ?hd (cs := #[.pointer none, .slice none 0 0]) (t := 53) ?hr ?_; (case hd => rfl); (case hg => rfl); (case hr => first | (go_simp; done) | (go_simp; rfl)); intro gb hgb w1 hbox hbb; have HW := Lib.hid (wr_new (by rw [hgb]; exact Nat.le_refl _) hbb hbox); clear hgb hbox hbb)
  (try simp only [Act.put, List.setIfInBounds_toArray, List.set_cons_zero, List.set_cons_succ])
  go_loopg [5] s.size (fun kq v5 w' => ∃ (i : Nat) (done : List UInt8), v5 = .int .i64 i ∧ Aside0 (i + kq = s.size) ∧ Aside0 (Un s i done) ∧ Aside0 (Wr w.heap.size gb (Lib.byteCells done) w w'))
  case atStart => exact ⟨0, [], rfl, ⟨by omega⟩, ⟨un_new s⟩, ⟨HW.out⟩⟩
  case round =>
    obtain ⟨i, done, rfl, HI, HU, HB⟩ := hrel
    by_cases hi : i < s.size
    · have hi' : (i : Int) < (s.size : Int) := by omega
      have hip : (0 : Int) ≤ (i : Int) := by omega
      have hile : (i : Int) ≤ (s.size : Int) := by omega
      have HLN : Aside0 ((Lib.byteCells done).length ≤ 4398046511104) := ⟨by
        have h1 := HU.out.len
        have h2 := HS.out
        simp only [Lib.byteCells, List.length_map]
        omega⟩
      have HI2 := Lib.hid hi
      by_cases hm : mustN s[i] = true
      · have HM := Lib.hid hm
        obtain ⟨c, ok, hrd⟩ : ∃ c ok, readN (s.data.toList.drop i) = (c, ok) := ⟨_, _, rfl⟩
        have HRD := Lib.hid hrd
        clear hrd
        by_cases hgood : ok = true ∧ mustN c = true
        · obtain ⟨rfl, hc⟩ := hgood
          have HC := Lib.hid hc
          go_wp2_with (first | ((go_at_call 88); (with_reducible refine (must_calls _ _).mono ?_); rintro e w2 ⟨rfl, hw⟩; rw [hw]; clear hw) | ((go_at_call 97); (with_reducible refine (read_calls _ _).mono ?_); rintro e w3 ⟨rfl, hw⟩; rw [hw, ext_drop, HRD.out]; clear hw) | ((go_at_call 33); (with_reducible refine (wb HB.out (c.toNat : Int) (by have := HLN.out; omega)).mono ?_); rintro e w3 ⟨rfl, h⟩; have HB3 := Lib.hid h; clear h) | ((go_at_call 33); exact absurd HM.out (Bool.eq_false_iff.1 (by simpa using (by assumption : (!mustN s[i]) = true)))))
          go_roundg (s.size - i - 4)
          case measure => have := HI.out; have := HI2.out; omega
          case rel =>
            have hu := HU.out.esc HI2.out HM.out HRD.out HC.out
            have h2 := HS.out
            have h3 := HI2.out
            have h4 := hu.le
            exact ⟨i + 4, _, by rw [show wrap64 ((i : Int) + 3) = (i : Int) + 3 from wrap_in (by omega) (by omega), wrap_in (by omega) (by omega)]; exact congrArg _ (by omega), ⟨by omega⟩, ⟨hu⟩, ⟨by rw [Lib.byteCells_append]; exact HB3.out⟩⟩
        · have HE := Lib.hid (HU.out.bad hi hm HRD.out hgood)
          cases ok with
          | false =>
            clear hgood
            go_wp2_with (first | ((go_at_call 88); (with_reducible refine (must_calls _ _).mono ?_); rintro e w2 ⟨rfl, hw⟩; rw [hw]; clear hw) | ((go_at_call 97); (with_reducible refine (read_calls _ _).mono ?_); rintro e w3 ⟨rfl, hw⟩; rw [hw, ext_drop, HRD.out]; clear hw) | ((go_at_call 33); exact absurd HM.out (Bool.eq_false_iff.1 (by simpa using (by assumption : (!mustN s[i]) = true)))))
            all_goals go_returns
            all_goals exact ⟨by rw [← HRR.out, HE.out]; rfl, by have h := HB.out.below; repeat (first | exact h | apply pw_below_drewN | apply below_drew1)⟩
          | true =>
            have hc : mustN c = false := by simpa using hgood
            clear hgood
            go_wp2_with (first | ((go_at_call 88); (with_reducible refine (must_calls _ _).mono ?_); rintro e w2 ⟨rfl, hw⟩; rw [hw]; clear hw) | ((go_at_call 97); (with_reducible refine (read_calls _ _).mono ?_); rintro e w3 ⟨rfl, hw⟩; rw [hw, ext_drop, HRD.out]; clear hw) | ((go_at_call 33); exact absurd HM.out (Bool.eq_false_iff.1 (by simpa using (by assumption : (!mustN s[i]) = true)))))
            all_goals go_returns
            all_goals exact ⟨by rw [← HRR.out, HE.out]; rfl, by have h := HB.out.below; repeat (first | exact h | apply pw_below_drewN | apply below_drew1)⟩
      · have hm' : mustN s[i] = false := by simpa using hm
        have HM : Aside0 (mustN s[i] = false) := ⟨hm'⟩
        go_wp2_with (first | ((go_at_call 88); (with_reducible refine (must_calls _ _).mono ?_); rintro e w2 ⟨rfl, hw⟩; rw [hw]; clear hw) | ((go_at_call 33); (with_reducible refine (wb HB.out _ (by have := HLN.out; omega)).mono ?_); rintro e w3 ⟨rfl, h⟩; have HB3 := Lib.hid h; clear h) | ((go_at_call 97); exact absurd HM.out (by simpa using (by assumption : (!mustN s[i]) = false))))
        go_roundg (s.size - i - 1)
        case measure => have := HI.out; have := HI2.out; omega
        case rel =>
          have hu := HU.out.plain HI2.out HM.out
          have h2 := HS.out
          have h3 := HI2.out
          exact ⟨i + 1, _, by first | rfl | (rw [wrap_in (by omega) (by omega)]; rfl), ⟨by omega⟩, ⟨hu⟩, ⟨by rw [Lib.byteCells_append]; exact HB3.out⟩⟩
    · have hin : ¬ (i : Int) < (s.size : Int) := by omega
      have HE := Lib.hid (HU.out.fin hi)
      go_wp2_with ((go_at_call 34); (with_reducible refine (wstr HB.out).mono ?_); rintro e w2 ⟨rfl, hb⟩; have HB2 := Lib.hid hb; clear hb)
      all_goals go_returns
      all_goals exact ⟨by rw [← HRR.out, HE.out]; rfl, HB2.out⟩

/-! ### a line of an answer -/
def escBodyN (l : List UInt8) : List UInt8 := if l.head? = some 37 then [92, 48, 52, 53] ++ escL (l.drop 1) else escL l
def unescBodyR (l : List UInt8) : List UInt8 × Int :=
  if l.head? = some 37 then ([], 10)
  else if Lib.hasPrefix l [92, 48, 52, 53] = true then (if (unescR (l.drop 4)).2 = 0 then (37 :: (unescR (l.drop 4)).1, 0) else ([], (unescR (l.drop 4)).2))
  else unescR l
theorem head_at (s : ByteArray) (h : 0 < s.size) : s.data.toList.head? = some s[0] := by
  have := drop_at s 0 h
  rw [List.drop_zero] at this
  rw [this]
  rfl
theorem empty_size (s : ByteArray) (h : ¬ 0 < s.size) : s = ⟨#[]⟩ := by
  apply toList_inj
  rw [ByteArray.toList_eq, ByteArray.toList_eq]
  have := dlen s
  exact List.length_eq_zero_iff.1 (by omega)
theorem notempty {s : ByteArray} (h : 0 < s.size) : s.toList.isEmpty = false := by
  rw [ByteArray.toList_eq, List.isEmpty_eq_false_iff]
  intro e
  have := dlen s
  rw [e] at this
  simp at this
  omega

set_option maxHeartbeats 3200000 in
theorem escBody_calls {w : World} (hL : LaidW w) (s : ByteArray) (hs : s.size ≤ 1099511627776) :
    Calls Tryz.prog 35 #[.string s] w fun e w' => e = .returned (.string (ofL (escBodyN s.data.toList))) ∧ Below w.heap.size w w' := by
  have HL := Lib.hid hL
  have HS := Lib.hid hs
  clear hL hs
  by_cases h0 : 0 < s.size
  · have hne := notempty h0
    by_cases hb : ((s[0].toNat : Int) == 37) = true
    · have e1 : s[0] = 37 := by
        apply UInt8.toNat_inj.1
        have := beq_iff_eq.1 hb
        show _ = 37
        omega
      have HE : Aside0 (escBodyN s.data.toList = [92, 48, 52, 53] ++ escL (s.data.toList.drop 1)) := ⟨by unfold escBodyN; rw [if_pos (by rw [head_at s h0, e1])]⟩
      have h1 : (1 : Int) ≤ (s.size : Int) := by omega
      have HX : Aside0 ((s.extract 1 s.size).size ≤ 1099511627776) := ⟨by rw [ByteArray.size_extract]; have := HS.out; omega⟩
      obtain ⟨v, HV⟩ : ∃ v, Aside0 (v = ofL (escL (s.data.toList.drop 1))) := ⟨_, ⟨rfl⟩⟩
      have hv : 4 + v.size ≤ 9223372036854775807 := by
        rw [HV.out, ofL_size]
        have h2 := escL_len (s.data.toList.drop 1)
        rw [List.length_drop, dlen] at h2
        have := HS.out
        omega
      clear e1
      go_enter Tryz.func35, Tryz.ntmps35
      go_wp2_with ((go_at_call 54); (with_reducible refine (escape_calls HL.out _ HX.out).mono ?_); rintro e w2 ⟨rfl, hb2⟩; rw [ext_drop, ← HV.out]; have HB := Lib.hid hb2; clear hb2)
      all_goals go_returns
      all_goals exact ⟨by
        rw [HE.out, ← ofL_append, ← HV.out]
        rfl, HB.out⟩
    · have hb' : ((s[0].toNat : Int) == 37) = false := by simpa using hb
      have HE : Aside0 (escBodyN s.data.toList = escL s.data.toList) := ⟨by
        unfold escBodyN
        rw [if_neg]
        rw [head_at s h0]
        intro q
        injection q with q
        exact hb (by rw [q]; rfl)⟩
      go_enter Tryz.func35, Tryz.ntmps35
      go_wp2_with ((go_at_call 54); (with_reducible refine (escape_calls HL.out _ HS.out).mono ?_); rintro e w2 ⟨rfl, hb2⟩; have HB := Lib.hid hb2; clear hb2)
      all_goals go_returns
      all_goals exact ⟨by rw [HE.out]; rfl, HB.out⟩
  · obtain rfl := empty_size s h0
    go_enter Tryz.func35, Tryz.ntmps35
    go_wp2_with ((go_at_call 54); (with_reducible refine (escape_calls HL.out _ HS.out).mono ?_); rintro e w2 ⟨rfl, hb2⟩; have HB := Lib.hid hb2; clear hb2)
    all_goals go_returns
    all_goals exact ⟨rfl, HB.out⟩

theorem mark4 : (⟨#[92, 48, 52, 53]⟩ : ByteArray).data.toList = [92, 48, 52, 53] := rfl
theorem unescF_len : ∀ (k : Nat) (l t : List UInt8), unescF k l = some t → t.length ≤ l.length
  | k, [], t, h => by rw [unescF_nil] at h; injection h with h; subst h; simp
  | 0, x :: l, t, h => by simp [unescF] at h
  | k + 1, x :: l, t, h => by
    simp only [unescF] at h
    split at h
    · split at h
      · obtain ⟨u, hu, rfl⟩ := Option.map_eq_some_iff.1 h
        have := unescF_len k _ u hu
        simp only [List.length_drop, List.length_cons] at this ⊢
        omega
      · cases h
    · obtain ⟨u, hu, rfl⟩ := Option.map_eq_some_iff.1 h
      have := unescF_len k _ u hu
      simp only [List.length_cons] at this ⊢
      omega
theorem unescR_len (l : List UInt8) : (unescR l).1.length ≤ l.length := by
  unfold unescR
  split
  · rename_i t h
    exact unescF_len _ _ _ h
  · simp
set_option maxHeartbeats 3200000 in
theorem unescBody_calls {w : World} (hL : LaidW w) (s : ByteArray) (hs : s.size ≤ 1099511627776) :
    Calls Tryz.prog 41 #[.string s] w fun e w' => e = .returned (.tuple #[.string (ofL (unescBodyR s.data.toList).1), .int .i64 (unescBodyR s.data.toList).2]) ∧ Below w.heap.size w w' := by
  have HL := Lib.hid hL
  have HS := Lib.hid hs
  clear hL hs
  by_cases h0 : 0 < s.size
  · have hne := notempty h0
    by_cases hb : ((s[0].toNat : Int) == 37) = true
    · have e1 : s[0] = 37 := by
        apply UInt8.toNat_inj.1
        have := beq_iff_eq.1 hb
        show _ = 37
        omega
      have HE : Aside0 (unescBodyR s.data.toList = ([], 10)) := ⟨by unfold unescBodyR; rw [if_pos (by rw [head_at s h0, e1])]⟩
      clear e1
      go_enter Tryz.func41, Tryz.ntmps41
      go_wp2
      all_goals go_returns
      all_goals exact ⟨by rw [HE.out]; rfl, Below.refl _ _⟩
    · have hb' : ((s[0].toNat : Int) == 37) = false := by simpa using hb
      have hnh : ¬ s.data.toList.head? = some 37 := by
        rw [head_at s h0]
        intro q
        injection q with q
        exact hb (by rw [q]; rfl)
      have HNH := Lib.hid hnh
      clear hb hnh
      by_cases hp : Lib.hasPrefix s.data.toList [92, 48, 52, 53] = true
      · have HP := Lib.hid hp
        have h4 : 4 ≤ s.size := by
          unfold Lib.hasPrefix at hp
          rw [List.isPrefixOf_iff_prefix] at hp
          have := hp.length_le
          rw [dlen] at this
          exact this
        have h4' : (4 : Int) ≤ (s.size : Int) := by omega
        have HX : Aside0 ((s.extract 4 s.size).size ≤ 1099511627776) := ⟨by rw [ByteArray.size_extract]; have := HS.out; omega⟩
        obtain ⟨t, er, hr⟩ : ∃ t er, unescR (s.data.toList.drop 4) = (t, er) := ⟨_, _, rfl⟩
        have HR := Lib.hid hr
        have HTL : Aside0 (t.length ≤ 1099511627776) := ⟨by
          have h1 := unescR_len (s.data.toList.drop 4)
          rw [hr, List.length_drop, dlen] at h1
          have := HS.out
          simp only at h1
          omega⟩
        clear hr hp
        by_cases he : er = 0
        · subst he
          have HE : Aside0 (unescBodyR s.data.toList = (37 :: t, 0)) := ⟨by unfold unescBodyR; rw [if_neg HNH.out, if_pos HP.out, HR.out, if_pos rfl]⟩
          obtain ⟨v, HV⟩ : ∃ v, Aside0 (v = ofL t) := ⟨_, ⟨rfl⟩⟩
          have hv : 1 + v.size ≤ 9223372036854775807 := by rw [HV.out, ofL_size]; have := HTL.out; omega
          go_enter Tryz.func41, Tryz.ntmps41
          go_wp2_with (first | ((go_at_call 59); (with_reducible refine (Tryz.strings_HasPrefix _ _ _).mono ?_); rintro e w2 ⟨rfl, hw⟩; rw [hw, mark4, HP.out]; clear hw) | ((go_at_call 60); (with_reducible refine (unescape_calls HL.out _ HX.out).mono ?_); rintro e w3 ⟨rfl, hb2⟩; rw [ext_drop, HR.out]; have HB := Lib.hid hb2; clear hb2; simp only [← HV.out]))
          all_goals go_returns
          all_goals exact ⟨by
            rw [HE.out, show (37 :: t : List UInt8) = [37] ++ t from rfl, ← ofL_append, ← HV.out]
            rfl, HB.out⟩
        · have HE : Aside0 (unescBodyR s.data.toList = ([], er)) := ⟨by unfold unescBodyR; rw [if_neg HNH.out, if_pos HP.out, HR.out, if_neg he]⟩
          have hee : (er != 0) = true := by simpa using he
          go_enter Tryz.func41, Tryz.ntmps41
          go_wp2_with (first | ((go_at_call 59); (with_reducible refine (Tryz.strings_HasPrefix _ _ _).mono ?_); rintro e w2 ⟨rfl, hw⟩; rw [hw, mark4, HP.out]; clear hw) | ((go_at_call 60); (with_reducible refine (unescape_calls HL.out _ HX.out).mono ?_); rintro e w3 ⟨rfl, hb2⟩; rw [ext_drop, HR.out]; have HB := Lib.hid hb2; clear hb2))
          all_goals go_returns
          all_goals exact ⟨by rw [HE.out]; rfl, HB.out⟩
      · have hp' : Lib.hasPrefix s.data.toList [92, 48, 52, 53] = false := by simpa using hp
        have HP := Lib.hid hp'
        have HE : Aside0 (unescBodyR s.data.toList = unescR s.data.toList) := ⟨by unfold unescBodyR; rw [if_neg HNH.out, if_neg hp]⟩
        clear hp hp'
        go_enter Tryz.func41, Tryz.ntmps41
        go_wp2_with (first | ((go_at_call 59); (with_reducible refine (Tryz.strings_HasPrefix _ _ _).mono ?_); rintro e w2 ⟨rfl, hw⟩; rw [hw, mark4, HP.out]; clear hw) | ((go_at_call 60); (with_reducible refine (unescape_calls HL.out _ HS.out).mono ?_); rintro e w3 ⟨rfl, hb2⟩; have HB := Lib.hid hb2; clear hb2))
        all_goals go_returns
        all_goals exact ⟨by rw [HE.out]; rfl, HB.out⟩
  · obtain rfl := empty_size s h0
    have HP : Aside0 (Lib.hasPrefix (⟨#[]⟩ : ByteArray).data.toList [92, 48, 52, 53] = false) := ⟨rfl⟩
    go_enter Tryz.func41, Tryz.ntmps41
    go_wp2_with (first | ((go_at_call 59); (with_reducible refine (Tryz.strings_HasPrefix _ _ _).mono ?_); rintro e w2 ⟨rfl, hw⟩; rw [hw, mark4, HP.out]; clear hw) | ((go_at_call 60); (with_reducible refine (unescape_calls HL.out _ HS.out).mono ?_); rintro e w3 ⟨rfl, hb2⟩; have HB := Lib.hid hb2; clear hb2))
    all_goals go_returns
    all_goals exact ⟨rfl, HB.out⟩
end Go.Proofs.YtnblabfkkcohgaaGreatDoor.Wire
end
section
/- The program's numbers and ids, walked: PutNumber, Number, PutId, Id. Conditions: the tables lie as they are laid, the text has at most 2^40 bytes. -/
namespace Go.Proofs.YtnblabfkkcohgaaGreatDoor.Wire
set_option linter.unusedVariables false
set_option linter.unusedSimpArgs false
open Go Go.Shelf Go.RowKit Go.Proofs.YtnblabfkkcohgaaGreatDoor.Given Go.Proofs.YtnblabfkkcohgaaGreatDoorW.PrintWords Go.Proofs.YtnblabfkkcohgaaGreatDoorW.PrintLast

def putNumN (n : Int) : List UInt8 := if 0 ≤ n ∧ n ≤ 4611686018427387904 then Lib.decDigits n.toNat else []
theorem itoa_calls {w : World} (hL : LaidW w) (n : Int) (h0 : 0 ≤ n) (h1 : n ≤ 4611686018427387904) :
    Calls Tryz.prog 141 #[.int .i64 n] w fun e w' => e = .returned (.string (ofL (Lib.decDigits n.toNat))) ∧ Below w.heap.size w w' := by
  refine (Tryz.strconv_Itoa n (by omega) (by omega) w hL.out).mono ?_
  rintro e w' ⟨rfl, k, os, rfl⟩
  refine ⟨?_, Lib.below_grow _ w (Nat.le_refl _) k os⟩
  have e1 := Lib.itoa_nonneg n.toNat
  rw [show ((n.toNat : Nat) : Int) = n by omega] at e1
  rw [e1]
  rfl
theorem putNumber_calls {w : World} (hL : LaidW w) (n : Int) :
    Calls Tryz.prog 101 #[.int .i64 n] w fun e w' => e = .returned (.string (ofL (putNumN n))) ∧ Below w.heap.size w w' := by
  have HL := Lib.hid hL
  clear hL
  by_cases h0 : n < 0
  · have HE : Aside0 (putNumN n = []) := ⟨by unfold putNumN; rw [if_neg (by omega)]⟩
    go_enter Tryz.func101, Tryz.ntmps101
    go_wp2
    all_goals go_returns
    all_goals exact ⟨by rw [HE.out]; rfl, Below.refl _ _⟩
  · by_cases h1 : n > 4611686018427387904
    · have HE : Aside0 (putNumN n = []) := ⟨by unfold putNumN; rw [if_neg (by omega)]⟩
      go_enter Tryz.func101, Tryz.ntmps101
      go_wp2
      all_goals go_returns
      all_goals exact ⟨by rw [HE.out]; rfl, Below.refl _ _⟩
    · have HE : Aside0 (putNumN n = Lib.decDigits n.toNat) := ⟨by unfold putNumN; rw [if_pos (by omega)]⟩
      have H0 := Lib.hid h0
      have H1 := Lib.hid h1
      go_enter Tryz.func101, Tryz.ntmps101
      go_wp2_with ((go_at_call 141); (with_reducible refine (itoa_calls HL.out n (by have := H0.out; omega) (by have := H1.out; omega)).mono ?_); rintro e w2 ⟨rfl, hb⟩; have HB := Lib.hid hb; clear hb)
      all_goals go_returns
      all_goals exact ⟨by rw [HE.out]; rfl, HB.out⟩

/-! ### Number -/
theorem dec_digit (u : Nat) (h : u < 10) : 48 ≤ (UInt8.ofNat (48 + u)).toNat ∧ (UInt8.ofNat (48 + u)).toNat ≤ 57 ∧ (UInt8.ofNat (48 + u)).toNat - 48 = u := by
  rw [UInt8.toNat_ofNat']
  omega
theorem parse_dec : ∀ (u : Nat) (r : List UInt8), u ≤ 4611686018427387904 → Lib.parseUint10 0 (Lib.decDigits u ++ r) = Lib.parseUint10 u r := by
  intro u
  induction u using Nat.strongRecOn with
  | _ u ih =>
    intro r hu
    rw [Lib.decDigits]
    split
    · rename_i h
      obtain ⟨a, b, c⟩ := dec_digit u h
      simp only [List.cons_append, List.nil_append, Lib.parseUint10]
      rw [if_pos ⟨a, b⟩, if_neg (by omega), if_neg (by omega), c]
      simp
    · rename_i h
      rw [List.append_assoc, ih (u / 10) (by omega) _ (by omega)]
      obtain ⟨a, b, c⟩ := dec_digit (u % 10) (by omega)
      simp only [List.cons_append, List.nil_append, Lib.parseUint10]
      rw [if_pos ⟨a, b⟩, if_neg (by omega), if_neg (by omega), c]
      congr 1
      omega
theorem dec_cons (u : Nat) : ∃ c r, Lib.decDigits u = c :: r ∧ 48 ≤ c.toNat ∧ c.toNat ≤ 57 := by
  induction u using Nat.strongRecOn with
  | _ u ih =>
    rw [Lib.decDigits]
    split
    · rename_i h
      obtain ⟨a, b, c⟩ := dec_digit u h
      exact ⟨_, _, rfl, a, b⟩
    · rename_i h
      obtain ⟨c, r, e, h1, h2⟩ := ih (u / 10) (by omega)
      exact ⟨c, r ++ [_], by rw [e]; rfl, h1, h2⟩
theorem atoi_dec (u : Nat) (hu : u ≤ 4611686018427387904) : Lib.atoiAll (Lib.decDigits u) = .ok (u : Int) := by
  obtain ⟨c, r, e, h1, h2⟩ := dec_cons u
  have hp : Lib.parseMag (c :: r) = .ok u := by
    unfold Lib.parseMag
    rw [if_neg (by simp)]
    have := parse_dec u [] hu
    rw [List.append_nil, e] at this
    rw [this]
    rfl
  rw [e, Lib.atoiAll_plain c r (by omega) (by omega), hp]
  simp only [Lib.signless]
  rw [if_neg (by omega)]
/-- What Number tells. -/
def numR (l : List UInt8) : Int × Bool := match Lib.atoiAll l with
  | .ok v => if 0 ≤ v ∧ l = putNumN v then (v, true) else (0, false)
  | _ => (0, false)
theorem putNumN_ne {v : Int} (h0 : 0 ≤ v) (h1 : v ≤ 4611686018427387904) : putNumN v = Lib.decDigits v.toNat := by unfold putNumN; rw [if_pos ⟨h0, h1⟩]
theorem numR_yes (v : Int) (h0 : 0 ≤ v) (h1 : v ≤ 4611686018427387904) : numR (putNumN v) = (v, true) := by
  unfold numR
  have e := atoi_dec v.toNat (by omega)
  rw [show ((v.toNat : Nat) : Int) = v by omega] at e
  rw [putNumN_ne h0 h1, e]
  simp only
  rw [if_pos ⟨h0, (putNumN_ne h0 h1).symm⟩]
theorem atoi_below {w w' : World} (h : w' = w ∨ ∃ t, w' = Lib.bytesWorld w 5 t) : Below w.heap.size w w' := by
  rcases h with rfl | ⟨t, rfl⟩
  · exact Below.refl _ _
  · exact Lib.bytesWorld_below _ _ _
set_option maxHeartbeats 1600000 in
theorem number_calls {w : World} (hL : LaidW w) (s : ByteArray) (hs : s.size ≤ 1099511627776) :
    Calls Tryz.prog 99 #[.string s] w fun e w' => e = .returned (.tuple #[.int .i64 (numR s.data.toList).1, .bool (numR s.data.toList).2]) ∧ Below w.heap.size w w' := by
  have HL := Lib.hid hL
  have HS := Lib.hid hs
  clear hL hs
  cases ha : Lib.atoiAll s.data.toList with
  | ok v =>
    have HA := Lib.hid ha
    clear ha
    by_cases h0 : v < 0
    · have HE : Aside0 (numR s.data.toList = (0, false)) := ⟨by unfold numR; rw [HA.out]; simp only; rw [if_neg (by omega)]⟩
      go_enter Tryz.func99, Tryz.ntmps99
      go_wp2_with ((go_at_call 140); (with_reducible refine (Tryz.strconv_Atoi_ok s (by have := HS.out; omega) v HA.out w).mono ?_); rintro e w2 ⟨rfl, hw⟩; have HB := Lib.hid (atoi_below hw); clear hw)
      all_goals go_returns
      all_goals exact ⟨by rw [HE.out]; rfl, HB.out⟩
    · by_cases h1 : s.data.toList = putNumN v
      · have HE : Aside0 (numR s.data.toList = (v, true)) := ⟨by unfold numR; rw [HA.out]; simp only; rw [if_pos ⟨by omega, h1⟩]⟩
        have h2 : ofL (putNumN v) = s := by rw [← h1, ofL_list]
        have H2 := Lib.hid h2
        clear h1 h2
        go_enter Tryz.func99, Tryz.ntmps99
        go_wp2_with (first | ((go_at_call 140); (with_reducible refine (Tryz.strconv_Atoi_ok s (by have := HS.out; omega) v HA.out w).mono ?_); rintro e w2 ⟨rfl, hw⟩; have HB := Lib.hid (atoi_below hw); clear hw) | ((go_at_call 101); (with_reducible refine (putNumber_calls (HL.out.below HB.out) v).mono ?_); rintro e w3 ⟨rfl, hb⟩; rw [H2.out]; have HB3 := Lib.hid (below_step HB.out hb); clear hb))
        all_goals go_returns
        all_goals exact ⟨by rw [HE.out]; rfl, HB3.out⟩
      · have HE : Aside0 (numR s.data.toList = (0, false)) := ⟨by unfold numR; rw [HA.out]; simp only; rw [if_neg (fun q => h1 q.2)]⟩
        obtain ⟨t, HT⟩ : ∃ t, Aside0 (ofL (putNumN v) = t) := ⟨_, ⟨rfl⟩⟩
        have h2 : (s.toList == t.toList) = false := by
          simp only [beq_eq_false_iff_ne, ne_eq]
          intro q
          have := toList_inj q
          rw [← HT.out] at this
          exact h1 (by rw [this, ofL_data])
        clear h1
        go_enter Tryz.func99, Tryz.ntmps99
        go_wp2_with (first | ((go_at_call 140); (with_reducible refine (Tryz.strconv_Atoi_ok s (by have := HS.out; omega) v HA.out w).mono ?_); rintro e w2 ⟨rfl, hw⟩; have HB := Lib.hid (atoi_below hw); clear hw) | ((go_at_call 101); (with_reducible refine (putNumber_calls (HL.out.below HB.out) v).mono ?_); rintro e w3 ⟨rfl, hb⟩; rw [HT.out]; have HB3 := Lib.hid (below_step HB.out hb); clear hb))
        all_goals go_returns
        all_goals exact ⟨by rw [HE.out]; rfl, HB3.out⟩
  | «syntax» =>
    have HA := Lib.hid ha
    have HE : Aside0 (numR s.data.toList = (0, false)) := ⟨by unfold numR; rw [ha]⟩
    clear ha
    obtain ⟨ev, hv, hev⟩ := HL.out.syn
    have HV := Lib.hid hv
    have HEV := Lib.hid hev
    clear hv hev
    go_enter Tryz.func99, Tryz.ntmps99
    go_wp2_with ((go_at_call 140); (with_reducible refine (Tryz.strconv_Atoi_syntax s (by have := HS.out; omega) HA.out ev w HV.out HEV.out).mono ?_); rintro e w2 ⟨N, rfl, _, _, hb⟩; have HB := Lib.hid hb; clear hb)
    all_goals go_returns
    all_goals exact ⟨by rw [HE.out]; rfl, HB.out⟩
  | range =>
    have HA := Lib.hid ha
    have HE : Aside0 (numR s.data.toList = (0, false)) := ⟨by unfold numR; rw [ha]⟩
    clear ha
    obtain ⟨ev, hv, hev⟩ := HL.out.rng
    have HV := Lib.hid hv
    have HEV := Lib.hid hev
    clear hv hev
    go_enter Tryz.func99, Tryz.ntmps99
    go_wp2_with ((go_at_call 140); (with_reducible refine (Tryz.strconv_Atoi_range s (by have := HS.out; omega) HA.out ev w HV.out HEV.out).mono ?_); rintro e w2 ⟨N, rfl, _, _, hb⟩; have HB := Lib.hid hb; clear hb)
    all_goals go_returns
    all_goals exact ⟨by rw [HE.out]; rfl, HB.out⟩
end Go.Proofs.YtnblabfkkcohgaaGreatDoor.Wire
end
section
-- Printed by a program of this session (wip/fork) out of the translation. Lean checks it.
namespace Go.Proofs.YtnblabfkkcohgaaGreatDoor.POct
open Go.Proofs.YtnblabfkkcohgaaGreatDoor.Given
open Go.RowKit Go.Proofs.YtnblabfkkcohgaaGreatDoorW.PrintWords Go.Proofs.YtnblabfkkcohgaaGreatDoorW.PrintLast Go.Proofs.YtnblabfkkcohgaaGreatDoorW.PrintMore
attribute [local go_sem] max2_int min2_int max_two min_two max_three min_three max_four min_four   -- for this text's walks alone
set_option linter.unusedVariables false
set_option linter.unusedSimpArgs false

def errW : Option Int → Value
  | none => .nilIface
  | some c => .iface 0 (.int .i64 c)
theorem errW_none : errW none = .nilIface := rfl
theorem errW_some (c : Int) : errW (some c) = .iface 0 (.int .i64 c) := rfl

-- the values' own types

end Go.Proofs.YtnblabfkkcohgaaGreatDoor.POct
end
section
-- Printed by a program of this session (wip/fork) out of the translation. Lean checks it.
namespace Go.Proofs.YtnblabfkkcohgaaGreatDoor.POct
open Go.Proofs.YtnblabfkkcohgaaGreatDoor.Given
open Go.RowKit Go.Proofs.YtnblabfkkcohgaaGreatDoorW.PrintWords Go.Proofs.YtnblabfkkcohgaaGreatDoorW.PrintLast Go.Proofs.YtnblabfkkcohgaaGreatDoorW.PrintMore
attribute [local go_sem] max2_int min2_int max_two min_two max_three min_three max_four min_four   -- for this text's walks alone
set_option linter.unusedVariables false
set_option linter.unusedSimpArgs false

/-! ### octal_PutId: function 107 -/
def octal_PutId.f (a0 : Int) (a1 : Int) : Option (ByteArray) := if a1 < 1 then (some (⟨#[]⟩ : ByteArray)) else (if a1 > 4611686018427387904 then (some (⟨#[]⟩ : ByteArray)) else ((some (([a0] : List Int) : List Int)).bind fun y101 => ((given_Itoa.f a1).bind fun t104 => (if (strOfNums y101).size + t104.size ≤ 9223372036854775807 then (some ((strOfNums y101) ++ t104)) else (none)))))
set_option maxHeartbeats 8000000 in
set_option maxRecDepth 100000 in
theorem octal_PutId.calls (a0 : Int) (a1 : Int) (r : ByteArray) (w : World) (hL : LaidW w) (h : octal_PutId.f a0 a1 = some r) :
    Calls Tryz.prog 107 #[.int .u8 a0, .int .i64 a1] w fun e w' => e = .returned (.string r) ∧ Below w.heap.size w w' := by
  have HB := Aside0.mk (Below.refl w.heap.size w)
  have H : (if a1 < 1 then (some (⟨#[]⟩ : ByteArray)) else (if a1 > 4611686018427387904 then (some (⟨#[]⟩ : ByteArray)) else ((some (([a0] : List Int) : List Int)).bind fun y101 => ((given_Itoa.f a1).bind fun t104 => (if (strOfNums y101).size + t104.size ≤ 9223372036854775807 then (some ((strOfNums y101) ++ t104)) else (none)))))) = some r := h
  clear h
  by_cases c3 : a1 < 1
  · rw [if_pos c3] at H
    have c3b0 : decide (a1 < 1) = true := decide_eq_true c3
    clear c3
    obtain rfl := Option.some.inj H
    go_enter Tryz.func107, Tryz.ntmps107
    go_wp2
    go_ret
    exact ⟨by first | rfl | (simp [errW_none, errW_some] <;> rfl) | (simp [*, errW_none, errW_some] <;> rfl), by repeat (first | (with_reducible first | exact HB.out | apply below_alloc | apply pw_below_drewN | apply below_drew1) | exact HB.out)⟩
  · rw [if_neg c3] at H
    have c3b0 : decide (a1 < 1) = false := decide_eq_false c3
    clear c3
    by_cases c4 : a1 > 4611686018427387904
    · rw [if_pos c4] at H
      have c4b0 : decide (4611686018427387904 < a1) = true := decide_eq_true c4
      clear c4
      obtain rfl := Option.some.inj H
      go_enter Tryz.func107, Tryz.ntmps107
      go_wp2
      go_ret
      exact ⟨by first | rfl | (simp [errW_none, errW_some] <;> rfl) | (simp [*, errW_none, errW_some] <;> rfl), by repeat (first | (with_reducible first | exact HB.out | apply below_alloc | apply pw_below_drewN | apply below_drew1) | exact HB.out)⟩
    · rw [if_neg c4] at H
      have c4b0 : decide (4611686018427387904 < a1) = false := decide_eq_false c4
      clear c4
      obtain ⟨y101, hy101⟩ : ∃ y_ : List Int, y_ = (([a0] : List Int)) := ⟨_, rfl⟩
      replace H : ((given_Itoa.f a1).bind fun t104 => (if (strOfNums y101).size + t104.size ≤ 9223372036854775807 then (some ((strOfNums y101) ++ t104)) else (none))) = some r := by first | (rw [hy101]; with_reducible exact H) | (have H2_ := (Option.bind_some _ _).symm.trans H; rw [hy101]; with_reducible exact H2_) | (have H2_ := (Option.bind_some _ _).symm.trans H; with_reducible exact H2_) | with_reducible exact H | (rw [hy101]; exact H) | exact H
      have Ny101 := Aside0.mk hy101
      clear hy101
      replace H := Option.bind_eq_some_iff.mp H
      obtain ⟨t104, A50, H⟩ := H
      replace H : (if (strOfNums y101).size + t104.size ≤ 9223372036854775807 then (some ((strOfNums y101) ++ t104)) else (none)) = some r := H
      have A5 := Aside0.mk A50
      clear A50
      by_cases c6 : (strOfNums y101).size + t104.size ≤ 9223372036854775807
      · rw [if_pos c6] at H
        have c6b0 := eq_true c6
        have c6b1 : decide ((strOfNums y101).size + t104.size ≤ 9223372036854775807) = true := decide_eq_true c6
        try have c6b2 : (9223372036854775807 < (strOfNums y101).size + t104.size) = False := eq_false (Nat.not_lt.2 c6)
        obtain rfl := Option.some.inj H
        go_enter Tryz.func107, Tryz.ntmps107
        try go_wp2
        have n0_ := Aside0.mk (below_drew1 HB.out)
        clear HB
        have HB := n0_
        clear n0_
        refine start_ (n := 7) (S := fun w' => True) (ds := []) #[false, false, false, false, false, false, false] (by kernel_rfl) rfl rfl trivial (fun hHeld => ?_)
        generalize w.drew = w7 at HB hHeld ⊢
        refine pure_ (i := 0) (N := some 11) (v := ?_) (a' := ?_) #[true, false, false, false, false, false, false] rfl rfl (by kernel_rfl) (fun _ _ _ h => h) (Or.inl ⟨by rfl, ?_⟩) ?_ ?_
        rotate_left
        · intro w'
          go_simp
          with_reducible rfl
        rotate_left
        · simp only [Act.put, List.setIfInBounds_toArray, List.set_cons_zero, List.set_cons_succ, i64_w, i32_w]
          rfl
        refine pure_ (i := 3) (N := some 14) (v := ?_) (a' := ?_) #[true, false, false, true, false, false, false] rfl rfl (by kernel_rfl) (fun _ _ _ h => h) (Or.inl ⟨by rfl, ?_⟩) ?_ ?_
        rotate_left
        · intro w'
          go_simp
          with_reducible rfl
        rotate_left
        · simp only [Act.put, List.setIfInBounds_toArray, List.set_cons_zero, List.set_cons_succ, i64_w, i32_w]
          rfl
        refine join_ (σ := Value) 2 #[true, true, true, true, true, false, false] (fun s_ => [(12, s_), (13, .string (strOfNums y101)), (15, .string t104)]) (fun s_ w' => (Kd.R (Kd.int .u8) 5 w' w.heap.size (fun _ => True) s_ y101) ∧ (Below w.heap.size w w')) ?_ ?_
        rotate_left
        · intro hCont
          refine two_ (i := 1) (j := 4) (Ni := some 12) (Nj := some 15) #[true, true, false, true, false, false, false] #[true, false, false, true, true, false, false] rfl rfl rfl rfl (by kernel_rfl) (by decide) (by decide) (fun K hK => ?_) (fun K hK => ?_)
          · skip
            refine Kd.R_lit_step (Kd.int .u8) _ 5 ?hg (N := 12) ?hd (xs := ([a0] : List Int)) (inner := [.int .u8 a0]) (ok := fun _ => True) (okp := fun _ => True) ?hr ?hp (fun _ hk => hk) trivial (Below.refl _ _) (Nat.le_refl _) (by simp) ?_; (case hd => rfl); (case hg => rfl); (case hr => first | (go_simp; done) | (go_simp; rfl)); (case hp => exact (Reps.one (show Kd.M (Kd.int .u8) _ _ _ a0 [.int .u8 a0] from rfl) (Reps.none _ _)))
            intro v102 w8 ho9 hb hg_ hnew_
            clear hg_ hnew_
            (first | rw [← Ny101.out] at ho9 | (simp only [Int.reduceToNat] at ho9; rw [← Ny101.out] at ho9))
            have n0_ := Aside0.mk (Kd.R_lower ho9 (below_size (by repeat (first | (with_reducible first | exact HB.out | apply below_alloc | apply pw_below_drewN | apply below_drew1) | exact HB.out))))
            have n1_ := Aside0.mk (below_step (by repeat (first | (with_reducible first | exact HB.out | apply below_alloc | apply pw_below_drewN | apply below_drew1) | exact HB.out)) hb)
            clear HB
            have HO103 := n0_
            have HB := n1_
            clear n0_ n1_
            clear hb ho9
            refine hK.out _ _ trivial (fun hHeld => ?_)
            clear hK K
            refine norm_ (a' := ?_) ?_ ?_
            rotate_left
            · show Act.put _ (some 12) _ = _
              simp only [Act.put, List.setIfInBounds_toArray, List.set_cons_zero, List.set_cons_succ, i64_w, i32_w]
              rfl
            refine two_ (i := 2) (j := 4) (Ni := some 13) (Nj := some 15) #[true, true, true, true, false, false, false] #[true, true, false, true, true, false, false] rfl rfl rfl rfl (by kernel_rfl) (by decide) (by decide) (fun K hK => ?_) (fun K hK => ?_)
            · skip
              have hcv10 := own_string (P := Tryz.prog) Tryz.underlying51 Tryz.underlying5 Tryz.underlying9 (Kd.own_of_R HO103.out)
              refine value_ (w1 := ?_) (v := ?_) (by rfl) rfl ?_ ?_
              rotate_left 2
              · go_simp
                constructor
                · rfl
                · rfl
              clear hcv10
              refine hK.out _ _ trivial (fun hHeld => ?_)
              clear hK K
              refine norm_ (a' := ?_) ?_ ?_
              rotate_left
              · show Act.put _ (some 13) _ = _
                simp only [Act.put, List.setIfInBounds_toArray, List.set_cons_zero, List.set_cons_succ, i64_w, i32_w]
                rfl
              refine one_ (i := 4) (N := some 15) #[true, true, true, true, true, false, false] rfl rfl (by kernel_rfl) (by decide) (fun K hK => ?_)
              refine goes_ Tryz.func141 (by kernel_rfl) rfl #[.int .i64 a1] (by rfl) rfl rfl (by (try simp only [List.map_toArray, List.map_cons, List.map_nil]); first | done | rfl | (simp only [List.length_drop, List.length_take]; rfl)) ?_
              with_reducible refine (given_Itoa.calls a1 t104 _ (LaidW.below hL (by repeat (first | (with_reducible first | exact HB.out | apply below_alloc | apply pw_below_drewN | apply below_drew1) | exact HB.out))) A5.out).mono ?_
              rintro e w11 ⟨rfl, hb⟩
              refine ⟨_, rfl, ?_⟩
              have n0_ := Aside0.mk (Kd.R_below (by (with_reducible repeat (first | apply Kd.R_alloc | apply Kd.R_drewN | apply Kd.R_drew)); exact HO103.out) hb)
              have n1_ := Aside0.mk (below_step (by repeat (first | (with_reducible first | exact HB.out | apply below_alloc | apply pw_below_drewN | apply below_drew1) | exact HB.out)) hb)
              clear HO103
              clear HB
              have HO103 := n0_
              have HB := n1_
              clear n0_ n1_
              (try clear hb)
              (try clear hb2)
              (try clear hk)
              (try clear hi)
              refine hK.out _ _ trivial (fun hHeld => ?_)
              clear hK K
              refine norm_ (a' := ?_) ?_ ?_
              rotate_left
              · show Act.put _ (some 15) _ = _
                simp only [Act.put, List.setIfInBounds_toArray, List.set_cons_zero, List.set_cons_succ, i64_w, i32_w]
                rfl
              exact norm_ (by simp only [putAll, Act.put, List.setIfInBounds_toArray, List.set_cons_zero, List.set_cons_succ]) (hCont (v102) _ ⟨(by (with_reducible repeat (first | apply Kd.R_alloc | apply Kd.R_drewN | apply Kd.R_drew)); exact HO103.out), (by repeat (first | (with_reducible first | exact HB.out | apply below_alloc | apply pw_below_drewN | apply below_drew1) | exact HB.out))⟩)
            · skip
              refine goes_ Tryz.func141 (by kernel_rfl) rfl #[.int .i64 a1] (by rfl) rfl rfl (by (try simp only [List.map_toArray, List.map_cons, List.map_nil]); first | done | rfl | (simp only [List.length_drop, List.length_take]; rfl)) ?_
              with_reducible refine (given_Itoa.calls a1 t104 _ (LaidW.below hL (by repeat (first | (with_reducible first | exact HB.out | apply below_alloc | apply pw_below_drewN | apply below_drew1) | exact HB.out))) A5.out).mono ?_
              rintro e w10 ⟨rfl, hb⟩
              refine ⟨_, rfl, ?_⟩
              have n0_ := Aside0.mk (Kd.R_below (by (with_reducible repeat (first | apply Kd.R_alloc | apply Kd.R_drewN | apply Kd.R_drew)); exact HO103.out) hb)
              have n1_ := Aside0.mk (below_step (by repeat (first | (with_reducible first | exact HB.out | apply below_alloc | apply pw_below_drewN | apply below_drew1) | exact HB.out)) hb)
              clear HO103
              clear HB
              have HO103 := n0_
              have HB := n1_
              clear n0_ n1_
              (try clear hb)
              (try clear hb2)
              (try clear hk)
              (try clear hi)
              refine hK.out _ _ trivial (fun hHeld => ?_)
              clear hK K
              refine norm_ (a' := ?_) ?_ ?_
              rotate_left
              · show Act.put _ (some 15) _ = _
                simp only [Act.put, List.setIfInBounds_toArray, List.set_cons_zero, List.set_cons_succ, i64_w, i32_w]
                rfl
              refine one_ (i := 2) (N := some 13) #[true, true, true, true, true, false, false] rfl rfl (by kernel_rfl) (by decide) (fun K hK => ?_)
              have hcv11 := own_string (P := Tryz.prog) Tryz.underlying51 Tryz.underlying5 Tryz.underlying9 (Kd.own_of_R HO103.out)
              refine value_ (w1 := ?_) (v := ?_) (by rfl) rfl ?_ ?_
              rotate_left 2
              · go_simp
                constructor
                · rfl
                · rfl
              clear hcv11
              refine hK.out _ _ trivial (fun hHeld => ?_)
              clear hK K
              refine norm_ (a' := ?_) ?_ ?_
              rotate_left
              · show Act.put _ (some 13) _ = _
                simp only [Act.put, List.setIfInBounds_toArray, List.set_cons_zero, List.set_cons_succ, i64_w, i32_w]
                rfl
              exact norm_ (by simp only [putAll, Act.put, List.setIfInBounds_toArray, List.set_cons_zero, List.set_cons_succ]) (hCont (v102) _ ⟨(by (with_reducible repeat (first | apply Kd.R_alloc | apply Kd.R_drewN | apply Kd.R_drew)); exact HO103.out), (by repeat (first | (with_reducible first | exact HB.out | apply below_alloc | apply pw_below_drewN | apply below_drew1) | exact HB.out))⟩)
          · skip
            refine goes_ Tryz.func141 (by kernel_rfl) rfl #[.int .i64 a1] (by rfl) rfl rfl (by (try simp only [List.map_toArray, List.map_cons, List.map_nil]); first | done | rfl | (simp only [List.length_drop, List.length_take]; rfl)) ?_
            with_reducible refine (given_Itoa.calls a1 t104 _ (LaidW.below hL (by repeat (first | (with_reducible first | exact HB.out | apply below_alloc | apply pw_below_drewN | apply below_drew1) | exact HB.out))) A5.out).mono ?_
            rintro e w8 ⟨rfl, hb⟩
            refine ⟨_, rfl, ?_⟩
            have n0_ := Aside0.mk (below_step (by repeat (first | (with_reducible first | exact HB.out | apply below_alloc | apply pw_below_drewN | apply below_drew1) | exact HB.out)) hb)
            clear HB
            have HB := n0_
            clear n0_
            (try clear hb)
            (try clear hb2)
            (try clear hk)
            (try clear hi)
            refine hK.out _ _ trivial (fun hHeld => ?_)
            clear hK K
            refine norm_ (a' := ?_) ?_ ?_
            rotate_left
            · show Act.put _ (some 15) _ = _
              simp only [Act.put, List.setIfInBounds_toArray, List.set_cons_zero, List.set_cons_succ, i64_w, i32_w]
              rfl
            refine one_ (i := 1) (N := some 12) #[true, true, false, true, true, false, false] rfl rfl (by kernel_rfl) (by decide) (fun K hK => ?_)
            refine Kd.R_lit_step (Kd.int .u8) _ 5 ?hg (N := 12) ?hd (xs := ([a0] : List Int)) (inner := [.int .u8 a0]) (ok := fun _ => True) (okp := fun _ => True) ?hr ?hp (fun _ hk => hk) trivial (Below.refl _ _) (Nat.le_refl _) (by simp) ?_; (case hd => rfl); (case hg => rfl); (case hr => first | (go_simp; done) | (go_simp; rfl)); (case hp => exact (Reps.one (show Kd.M (Kd.int .u8) _ _ _ a0 [.int .u8 a0] from rfl) (Reps.none _ _)))
            intro v102 w9 ho10 hb hg_ hnew_
            clear hg_ hnew_
            (first | rw [← Ny101.out] at ho10 | (simp only [Int.reduceToNat] at ho10; rw [← Ny101.out] at ho10))
            have n0_ := Aside0.mk (Kd.R_lower ho10 (below_size (by repeat (first | (with_reducible first | exact HB.out | apply below_alloc | apply pw_below_drewN | apply below_drew1) | exact HB.out))))
            have n1_ := Aside0.mk (below_step (by repeat (first | (with_reducible first | exact HB.out | apply below_alloc | apply pw_below_drewN | apply below_drew1) | exact HB.out)) hb)
            clear HB
            have HO103 := n0_
            have HB := n1_
            clear n0_ n1_
            clear hb ho10
            refine hK.out _ _ trivial (fun hHeld => ?_)
            clear hK K
            refine norm_ (a' := ?_) ?_ ?_
            rotate_left
            · show Act.put _ (some 12) _ = _
              simp only [Act.put, List.setIfInBounds_toArray, List.set_cons_zero, List.set_cons_succ, i64_w, i32_w]
              rfl
            refine one_ (i := 2) (N := some 13) #[true, true, true, true, true, false, false] rfl rfl (by kernel_rfl) (by decide) (fun K hK => ?_)
            have hcv11 := own_string (P := Tryz.prog) Tryz.underlying51 Tryz.underlying5 Tryz.underlying9 (Kd.own_of_R HO103.out)
            refine value_ (w1 := ?_) (v := ?_) (by rfl) rfl ?_ ?_
            rotate_left 2
            · go_simp
              constructor
              · rfl
              · rfl
            clear hcv11
            refine hK.out _ _ trivial (fun hHeld => ?_)
            clear hK K
            refine norm_ (a' := ?_) ?_ ?_
            rotate_left
            · show Act.put _ (some 13) _ = _
              simp only [Act.put, List.setIfInBounds_toArray, List.set_cons_zero, List.set_cons_succ, i64_w, i32_w]
              rfl
            exact norm_ (by simp only [putAll, Act.put, List.setIfInBounds_toArray, List.set_cons_zero, List.set_cons_succ]) (hCont (v102) _ ⟨(by (with_reducible repeat (first | apply Kd.R_alloc | apply Kd.R_drewN | apply Kd.R_drew)); exact HO103.out), (by repeat (first | (with_reducible first | exact HB.out | apply below_alloc | apply pw_below_drewN | apply below_drew1) | exact HB.out))⟩)
        rintro v102 w12 ⟨h0_, h1_⟩
        have n0_ : Aside0 (Kd.R (Kd.int .u8) 5 w12 w.heap.size (fun _ => True) v102 y101) := ⟨h0_⟩
        have n1_ : Aside0 (Below w.heap.size w w12) := ⟨h1_⟩
        clear HB
        clear h0_ h1_
        have HO103 := n0_
        have HB := n1_
        clear n0_ n1_
        have hHeld := trivial
        refine norm_ (a' := ?_) ?_ ?_
        rotate_left
        · simp only [putAll, Act.put, List.setIfInBounds_toArray, List.set_cons_zero, List.set_cons_succ]
          rfl
        refine pure_ (i := 5) (N := some 16) (v := ?_) (a' := ?_) #[true, true, true, true, true, true, false] rfl rfl (by kernel_rfl) (fun _ _ _ h => h) (Or.inl ⟨by rfl, ?_⟩) ?_ ?_
        rotate_left
        · intro w'
          go_simp
          with_reducible rfl
        rotate_left
        · simp only [Act.put, List.setIfInBounds_toArray, List.set_cons_zero, List.set_cons_succ, i64_w, i32_w]
          rfl
        refine pure_ (i := 6) (N := some 4) (v := ?_) (a' := ?_) #[true, true, true, true, true, true, true] rfl rfl (by kernel_rfl) (fun _ _ _ h => h) (Or.inl ⟨by rfl, ?_⟩) ?_ ?_
        rotate_left
        · intro w'
          go_simp
          with_reducible rfl
        rotate_left
        · simp only [Act.put, List.setIfInBounds_toArray, List.set_cons_zero, List.set_cons_succ, i64_w, i32_w]
          rfl
        refine done_ (by kernel_rfl) ?_
        try go_wp2
        go_ret
        exact ⟨by first | rfl | (simp [errW_none, errW_some] <;> rfl) | (simp [*, errW_none, errW_some] <;> rfl), by repeat (first | (with_reducible first | exact HB.out | apply below_alloc | apply pw_below_drewN | apply below_drew1) | exact HB.out)⟩
      · rw [if_neg c6] at H
        exact absurd H (by simp)

/-! ### octal_IsName: function 116 -/
mutual
def octal_IsName.j0 : Nat → ByteArray → Bool → Option (Bool)
  | 0, _, _ => none
  | k + 1, x0, x11 => if x11 = true then (some false) else (octal_IsName.l0 k x0 0)
def octal_IsName.l0 : Nat → ByteArray → Int → Option (Bool)
  | 0, _, _ => none
  | k + 1, x0, x3 => if x3 < (x0.size : Int) then (if 0 ≤ x3 then (if (bt x0 x3) < 32 then (some false) else (if (bt x0 x3) > 126 then (some false) else (if (bt x0 x3) = 46 then (some false) else (if (bt x0 x3) = 58 then (some false) else (octal_IsName.l0 k x0 (wrap64 (x3 + 1))))))) else (none)) else (if 0 < (x0.size : Int) then ((given_IndexByte.f (⟨#[32, 33, 36, 37, 43, 45, 61, 64, 94, 123]⟩ : ByteArray) (bt x0 0)).bind fun t105 => (if t105 < 0 then (if 0 ≤ (wrap64 ((x0.size : Int) - 1)) then (if (wrap64 ((x0.size : Int) - 1)) < (x0.size : Int) then (some ((bt x0 (wrap64 ((x0.size : Int) - 1))) != 32)) else (none)) else (none)) else (some false))) else (none))
end
def octal_IsName.f (k : Nat) (a0 : ByteArray) : Option (Bool) := if (a0.size : Int) < 1 then (octal_IsName.j0 k a0 true) else (octal_IsName.j0 k a0 (decide ((a0.size : Int) > 32)))
theorem octal_IsName.mono_l : ∀ k, (∀ y0 y1, LeO (octal_IsName.j0 k y0 y1) (octal_IsName.j0 (k + 1) y0 y1)) ∧ (∀ y0 y1, LeO (octal_IsName.l0 k y0 y1) (octal_IsName.l0 (k + 1) y0 y1))
  | 0 => ⟨fun _ _ r h => by simp [octal_IsName.j0] at h, fun _ _ r h => by simp [octal_IsName.l0] at h⟩
  | k + 1 => by
    obtain ⟨ih0, ih1⟩ := octal_IsName.mono_l k
    refine ⟨?_, ?_⟩
    · intro y0 y1
      unfold octal_IsName.j0
      repeat' first
      | (with_reducible exact ih0 _ _)
      | (with_reducible exact ih1 _ _)
      | (with_reducible exact LeO.refl _)
      | (with_reducible exact LeO.none _)
      | (with_reducible refine LeO.ite ?_ ?_)
      | (with_reducible refine LeO.bind ?_ (fun _ => ?_))
      | exact ih0 _ _
      | exact ih1 _ _
      | exact LeO.none _
      | refine LeO.ite ?_ ?_
      | refine LeO.bind ?_ (fun _ => ?_)
    · intro y0 y1
      unfold octal_IsName.l0
      repeat' first
      | (with_reducible exact ih0 _ _)
      | (with_reducible exact ih1 _ _)
      | (with_reducible exact LeO.refl _)
      | (with_reducible exact LeO.none _)
      | (with_reducible refine LeO.ite ?_ ?_)
      | (with_reducible refine LeO.bind ?_ (fun _ => ?_))
      | exact ih0 _ _
      | exact ih1 _ _
      | exact LeO.none _
      | refine LeO.ite ?_ ?_
      | refine LeO.bind ?_ (fun _ => ?_)
theorem octal_IsName.mono : ∀ a0 k, LeO (octal_IsName.f k a0) (octal_IsName.f (k + 1) a0) := by
  intro a0 k
  obtain ⟨ih0, ih1⟩ := octal_IsName.mono_l k
  unfold octal_IsName.f
  repeat' first
      | (with_reducible exact ih0 _ _)
      | (with_reducible exact ih1 _ _)
      | (with_reducible exact LeO.refl _)
      | (with_reducible exact LeO.none _)
      | (with_reducible refine LeO.ite ?_ ?_)
      | (with_reducible refine LeO.bind ?_ (fun _ => ?_))
      | exact ih0 _ _
      | exact ih1 _ _
      | exact LeO.none _
      | refine LeO.ite ?_ ?_
      | refine LeO.bind ?_ (fun _ => ?_)
set_option maxHeartbeats 8000000 in
set_option maxRecDepth 100000 in
theorem octal_IsName.calls (k : Nat) (a0 : ByteArray) (r : Bool) (w : World) (h : octal_IsName.f k a0 = some r) :
    Calls Tryz.prog 116 #[.string a0] w fun e w' => e = .returned (.bool r) ∧ Drawn0 w w' := by
  have H : (if (a0.size : Int) < 1 then (octal_IsName.j0 k a0 true) else (octal_IsName.j0 k a0 (decide ((a0.size : Int) > 32)))) = some r := h
  clear h
  have HC2 := Aside0.mk H
  clear H
  go_enter Tryz.func116, Tryz.ntmps116
  go_upto_region 1 with (fail)
  go_cut [11] (fun v11 wc => ∃ (kq : Nat) (x11_1 : Bool), v11 = .bool x11_1 ∧ Aside0 (octal_IsName.j0 kq a0 x11_1 = some r) ∧ Aside0 (kq ≤ k) ∧ Drawn0 w wc)
  case first =>
    have H := HC2.out
    clear HC2
    by_cases c3 : (a0.size : Int) < 1
    · rw [if_pos c3] at H
      have c3b0 : decide ((a0.size : Int) < 1) = true := decide_eq_true c3
      have c3b1 : decide (a0.size < 1) = true := decide_eq_true (by omega)
      clear c3
      (first | rw [c3b0] | (simp only [i64_w, i32_w]; rw [c3b0]) | skip)
      have H' := Aside0.mk H
      clear H
      go_wp2
      go_meet
      case rel => exact ⟨_, (true), (by first | rfl | (simp; done) | (simp [*]; done)), H', ⟨by first | omega | exact Nat.le_refl _⟩, by repeat (first | exact Drawn0.refl _ | apply Drawn0.step)⟩
    · rw [if_neg c3] at H
      have c3b0 : decide ((a0.size : Int) < 1) = false := decide_eq_false c3
      have c3b1 : decide (a0.size < 1) = false := decide_eq_false (by omega)
      clear c3
      (first | rw [c3b0] | (simp only [i64_w, i32_w]; rw [c3b0]) | skip)
      have H' := Aside0.mk H
      clear H
      go_wp2
      go_meet
      case rel => exact ⟨_, (decide ((a0.size : Int) > 32)), (by first | rfl | (simp; done) | (simp [*]; done)), H', ⟨by first | omega | exact Nat.le_refl _⟩, by repeat (first | exact Drawn0.refl _ | apply Drawn0.step)⟩
  case rest =>
    clear HC2
    try clear c1
    try clear p2
    try clear c3
    try clear c3b0
    try clear c3b1
    obtain ⟨kq, x11_1, rfl, HA, HJ1, ⟨mc1, rfl⟩⟩ := hcut
    cases kq with
    | zero => exact absurd HA.out (by simp [octal_IsName.j0])
    | succ kj1 =>
      have H := HA.out
      clear HA
      simp only [octal_IsName.j0] at H
      by_cases c4 : x11_1 = true
      · subst c4
        have H1 : (some false) = some r := by rw [if_pos rfl] at H; exact H
        clear H
        have H := H1
        clear H1
        obtain rfl := Option.some.inj H
        go_wp2
        go_ret
        exact ⟨by first | rfl | (simp; done) | (simp [*]; done), by repeat (first | exact Drawn0.refl _ | apply Drawn0.step)⟩
      · replace c4 := Bool.eq_false_iff.mpr c4
        subst c4
        have H1 : (octal_IsName.l0 kj1 a0 0) = some r := by rw [if_neg (show ¬ (false = true) by decide)] at H; exact H
        clear H
        have H := H1
        clear H1
        have H' := Aside0.mk H
        clear H
        go_wp2
        (try simp only [Act.put, List.setIfInBounds_toArray, List.set_cons_zero, List.set_cons_succ])
        go_loopg [3] kj1 (fun kq v3 w' => ∃ (x3_2 : Int), v3 = .int .i64 x3_2 ∧ Aside0 (octal_IsName.l0 kq a0 x3_2 = some r) ∧ Aside0 (kq ≤ kj1) ∧ Drawn0 w w')
        case atStart => exact ⟨(0), (by first | rfl | (simp; done) | (simp [*]; done)), H', ⟨Nat.le_refl _⟩, by repeat (first | exact Drawn0.refl _ | apply Drawn0.step)⟩
        case round =>
          clear H'
          try clear c1
          try clear p2
          try clear c3
          try clear c3b0
          try clear c3b1
          try clear c4
          try clear p2
          obtain ⟨x3_2, rfl, HA, HK2, ⟨m2, rfl⟩⟩ := hrel
          cases gk with
          | zero => exact absurd HA.out (by simp [octal_IsName.l0])
          | succ k2 =>
            have H := HA.out
            clear HA
            simp only [octal_IsName.l0] at H
            by_cases c5 : x3_2 < (a0.size : Int)
            · rw [if_pos c5] at H
              have c5b0 : decide (x3_2 < (a0.size : Int)) = true := decide_eq_true c5
              clear c5
              by_cases c6 : 0 ≤ x3_2
              · rw [if_pos c6] at H
                have c6b0 : decide (0 ≤ x3_2) = true := decide_eq_true c6
                clear c6
                by_cases c8 : (bt a0 x3_2) < 32
                · rw [if_pos c8] at H
                  have c8b0 : decide ((bt a0 x3_2) < 32) = true := decide_eq_true c8
                  clear c8
                  obtain rfl := Option.some.inj H
                  have p7 : 0 ≤ (x3_2 : Int) := of_decide_eq_true (by first | (with_reducible assumption) | assumption)
                  have q7 : x3_2 < (a0.size : Int) := of_decide_eq_true (by first | (with_reducible assumption) | assumption)
                  have hx7 := bt_at a0 x3_2
                  replace p7 := eq_true p7
                  replace q7 := eq_true q7
                  go_wp2
                  go_ret
                  exact ⟨by first | rfl | (simp; done) | (simp [*]; done), by repeat (first | exact Drawn0.refl _ | apply Drawn0.step)⟩
                · rw [if_neg c8] at H
                  have c8b0 : decide ((bt a0 x3_2) < 32) = false := decide_eq_false c8
                  clear c8
                  by_cases c10 : (bt a0 x3_2) > 126
                  · rw [if_pos c10] at H
                    have c10b0 : decide (126 < (bt a0 x3_2)) = true := decide_eq_true c10
                    clear c10
                    obtain rfl := Option.some.inj H
                    have p7 : 0 ≤ (x3_2 : Int) := of_decide_eq_true (by first | (with_reducible assumption) | assumption)
                    have q7 : x3_2 < (a0.size : Int) := of_decide_eq_true (by first | (with_reducible assumption) | assumption)
                    have hx7 := bt_at a0 x3_2
                    replace p7 := eq_true p7
                    replace q7 := eq_true q7
                    have p9 : 0 ≤ (x3_2 : Int) := of_decide_eq_true (by first | (with_reducible assumption) | assumption)
                    have q9 : x3_2 < (a0.size : Int) := of_decide_eq_true (by first | (with_reducible assumption) | assumption)
                    have hx9 := bt_at a0 x3_2
                    replace p9 := eq_true p9
                    replace q9 := eq_true q9
                    go_wp2
                    go_ret
                    exact ⟨by first | rfl | (simp; done) | (simp [*]; done), by repeat (first | exact Drawn0.refl _ | apply Drawn0.step)⟩
                  · rw [if_neg c10] at H
                    have c10b0 : decide (126 < (bt a0 x3_2)) = false := decide_eq_false c10
                    clear c10
                    by_cases c12 : (bt a0 x3_2) = 46
                    · rw [if_pos c12] at H
                      have c12b0 : ((bt a0 x3_2) == 46) = true := beq_iff_eq.mpr c12
                      have c12b1 : ((bt a0 x3_2) != 46) = false := bne_eq_false_iff_eq.mpr c12
                      clear c12
                      obtain rfl := Option.some.inj H
                      have p7 : 0 ≤ (x3_2 : Int) := of_decide_eq_true (by first | (with_reducible assumption) | assumption)
                      have q7 : x3_2 < (a0.size : Int) := of_decide_eq_true (by first | (with_reducible assumption) | assumption)
                      have hx7 := bt_at a0 x3_2
                      replace p7 := eq_true p7
                      replace q7 := eq_true q7
                      have p9 : 0 ≤ (x3_2 : Int) := of_decide_eq_true (by first | (with_reducible assumption) | assumption)
                      have q9 : x3_2 < (a0.size : Int) := of_decide_eq_true (by first | (with_reducible assumption) | assumption)
                      have hx9 := bt_at a0 x3_2
                      replace p9 := eq_true p9
                      replace q9 := eq_true q9
                      have p11 : 0 ≤ (x3_2 : Int) := of_decide_eq_true (by first | (with_reducible assumption) | assumption)
                      have q11 : x3_2 < (a0.size : Int) := of_decide_eq_true (by first | (with_reducible assumption) | assumption)
                      have hx11 := bt_at a0 x3_2
                      replace p11 := eq_true p11
                      replace q11 := eq_true q11
                      go_wp2
                      go_ret
                      exact ⟨by first | rfl | (simp; done) | (simp [*]; done), by repeat (first | exact Drawn0.refl _ | apply Drawn0.step)⟩
                    · rw [if_neg c12] at H
                      have c12b0 : ((bt a0 x3_2) == 46) = false := beq_eq_false_iff_ne.mpr c12
                      have c12b1 : ((bt a0 x3_2) != 46) = true := bne_iff_ne.mpr c12
                      by_cases c14 : (bt a0 x3_2) = 58
                      · rw [if_pos c14] at H
                        have c14b0 : ((bt a0 x3_2) == 58) = true := beq_iff_eq.mpr c14
                        have c14b1 : ((bt a0 x3_2) != 58) = false := bne_eq_false_iff_eq.mpr c14
                        clear c14
                        obtain rfl := Option.some.inj H
                        have p7 : 0 ≤ (x3_2 : Int) := of_decide_eq_true (by first | (with_reducible assumption) | assumption)
                        have q7 : x3_2 < (a0.size : Int) := of_decide_eq_true (by first | (with_reducible assumption) | assumption)
                        have hx7 := bt_at a0 x3_2
                        replace p7 := eq_true p7
                        replace q7 := eq_true q7
                        have p9 : 0 ≤ (x3_2 : Int) := of_decide_eq_true (by first | (with_reducible assumption) | assumption)
                        have q9 : x3_2 < (a0.size : Int) := of_decide_eq_true (by first | (with_reducible assumption) | assumption)
                        have hx9 := bt_at a0 x3_2
                        replace p9 := eq_true p9
                        replace q9 := eq_true q9
                        have p11 : 0 ≤ (x3_2 : Int) := of_decide_eq_true (by first | (with_reducible assumption) | assumption)
                        have q11 : x3_2 < (a0.size : Int) := of_decide_eq_true (by first | (with_reducible assumption) | assumption)
                        have hx11 := bt_at a0 x3_2
                        replace p11 := eq_true p11
                        replace q11 := eq_true q11
                        have p13 : 0 ≤ (x3_2 : Int) := of_decide_eq_true (by first | (with_reducible assumption) | assumption)
                        have q13 : x3_2 < (a0.size : Int) := of_decide_eq_true (by first | (with_reducible assumption) | assumption)
                        have hx13 := bt_at a0 x3_2
                        replace p13 := eq_true p13
                        replace q13 := eq_true q13
                        go_wp2
                        go_ret
                        exact ⟨by first | rfl | (simp; done) | (simp [*]; done), by repeat (first | exact Drawn0.refl _ | apply Drawn0.step)⟩
                      · rw [if_neg c14] at H
                        have c14b0 : ((bt a0 x3_2) == 58) = false := beq_eq_false_iff_ne.mpr c14
                        have c14b1 : ((bt a0 x3_2) != 58) = true := bne_iff_ne.mpr c14
                        have H' := Aside0.mk H
                        clear H
                        have p7 : 0 ≤ (x3_2 : Int) := of_decide_eq_true (by first | (with_reducible assumption) | assumption)
                        have q7 : x3_2 < (a0.size : Int) := of_decide_eq_true (by first | (with_reducible assumption) | assumption)
                        have hx7 := bt_at a0 x3_2
                        replace p7 := eq_true p7
                        replace q7 := eq_true q7
                        have p9 : 0 ≤ (x3_2 : Int) := of_decide_eq_true (by first | (with_reducible assumption) | assumption)
                        have q9 : x3_2 < (a0.size : Int) := of_decide_eq_true (by first | (with_reducible assumption) | assumption)
                        have hx9 := bt_at a0 x3_2
                        replace p9 := eq_true p9
                        replace q9 := eq_true q9
                        have p11 : 0 ≤ (x3_2 : Int) := of_decide_eq_true (by first | (with_reducible assumption) | assumption)
                        have q11 : x3_2 < (a0.size : Int) := of_decide_eq_true (by first | (with_reducible assumption) | assumption)
                        have hx11 := bt_at a0 x3_2
                        replace p11 := eq_true p11
                        replace q11 := eq_true q11
                        have p13 : 0 ≤ (x3_2 : Int) := of_decide_eq_true (by first | (with_reducible assumption) | assumption)
                        have q13 : x3_2 < (a0.size : Int) := of_decide_eq_true (by first | (with_reducible assumption) | assumption)
                        have hx13 := bt_at a0 x3_2
                        replace p13 := eq_true p13
                        replace q13 := eq_true q13
                        go_wp2
                        go_roundg k2
                        case measure => have := HJ1.out; have := HK2.out; omega
                        case rel => exact ⟨(wrap64 (x3_2 + 1)), (by first | rfl | (simp; done) | (simp [*]; done)), H', ⟨by have := HJ1.out; have := HK2.out; omega⟩, by repeat (first | exact Drawn0.refl _ | apply Drawn0.step)⟩
              · rw [if_neg c6] at H
                exact absurd H (by simp)
            · rw [if_neg c5] at H
              have c5b0 : decide (x3_2 < (a0.size : Int)) = false := decide_eq_false c5
              clear c5
              by_cases c15 : 0 < (a0.size : Int)
              · rw [if_pos c15] at H
                have c15b0 : decide (0 < (a0.size : Int)) = true := decide_eq_true c15
                have c15b1 : decide (0 < a0.size) = true := decide_eq_true (by omega)
                clear c15
                replace H := Option.bind_eq_some_iff.mp H
                obtain ⟨t105, A170, H⟩ := H
                replace H : (if t105 < 0 then (if 0 ≤ (wrap64 ((a0.size : Int) - 1)) then (if (wrap64 ((a0.size : Int) - 1)) < (a0.size : Int) then (some ((bt a0 (wrap64 ((a0.size : Int) - 1))) != 32)) else (none)) else (none)) else (some false)) = some r := H
                have A17 := Aside0.mk A170
                clear A170
                by_cases c18 : t105 < 0
                · rw [if_pos c18] at H
                  have c18b0 : decide (t105 < 0) = true := decide_eq_true c18
                  clear c18
                  obtain ⟨ji19, hji19⟩ : ∃ j_ : Int, (wrap64 ((a0.size : Int) - 1)) = j_ := ⟨_, rfl⟩
                  replace H : (if 0 ≤ (ji19) then (if (ji19) < (a0.size : Int) then (some ((bt a0 (ji19)) != 32)) else (none)) else (none)) = some r := by first | (rw [hji19] at H; exact H) | (simp only [hji19] at H ⊢; exact H)
                  (try rw [hji19] at A17)
                  have hji19w : (IntKind.i64.wrap ((a0.size : Int) - 1)) = ji19 := (i64_w _).trans hji19
                  by_cases c20 : 0 ≤ (ji19)
                  · rw [if_pos c20] at H
                    have c20b0 : decide (0 ≤ (ji19)) = true := decide_eq_true c20
                    clear c20
                    by_cases c21 : (ji19) < (a0.size : Int)
                    · rw [if_pos c21] at H
                      have c21b0 : decide ((ji19) < (a0.size : Int)) = true := decide_eq_true c21
                      clear c21
                      obtain rfl := Option.some.inj H
                      have p16 : 0 ≤ (0 : Int) := (by omega)
                      have q16 : 0 < a0.size := (by have : (0 : Int) < (a0.size : Int) := of_decide_eq_true (by first | (with_reducible assumption) | assumption); omega)
                      have hx16 : ∀ h : 0 < a0.size, ((a0[0]'h).toNat : Int) = bt a0 0 := bt_at a0 0
                      clear p16
                      have qi16 : (0 < (a0.size : Int)) = True := eq_true (of_decide_eq_true (by first | (with_reducible assumption) | assumption))
                      replace q16 := eq_true q16
                      go_wp2_with (first | ((with_reducible refine gate_callee (f := 143) rfl ?_); refine goesL_ (some 42) rfl rfl Tryz.func143 (by kernel_rfl) rfl #[.string (⟨#[32, 33, 36, 37, 43, 45, 61, 64, 94, 123]⟩ : ByteArray), .int .u8 (bt a0 0)] rfl (by (try simp only [List.map_toArray, List.map_cons, List.map_nil]); first | done | rfl | (simp only [List.length_drop, List.length_take]; rfl)) ?_; (with_reducible refine (given_IndexByte.calls (⟨#[32, 33, 36, 37, 43, 45, 61, 64, 94, 123]⟩ : ByteArray) (bt a0 0) t105 _ A17.out).mono ?_); rintro e w' ⟨rfl, ⟨nd, rfl⟩⟩; refine ⟨_, rfl, ?_⟩; have p22 : 0 ≤ ((ji19) : Int) := of_decide_eq_true (by first | (with_reducible assumption) | assumption); have q22 : (ji19) < (a0.size : Int) := of_decide_eq_true (by first | (with_reducible assumption) | assumption); have hx22 := bt_at a0 (ji19); replace p22 := eq_true p22; replace q22 := eq_true q22))
                      go_ret
                      exact ⟨by first | rfl | (simp; done) | (simp only [← hji19] <;> (first | rfl | simp)) | (simp [*]; done), by repeat (first | exact Drawn0.refl _ | apply Drawn0.step)⟩
                    · rw [if_neg c21] at H
                      exact absurd H (by simp)
                  · rw [if_neg c20] at H
                    exact absurd H (by simp)
                · rw [if_neg c18] at H
                  have c18b0 : decide (t105 < 0) = false := decide_eq_false c18
                  clear c18
                  obtain rfl := Option.some.inj H
                  have p16 : 0 ≤ (0 : Int) := (by omega)
                  have q16 : 0 < a0.size := (by have : (0 : Int) < (a0.size : Int) := of_decide_eq_true (by first | (with_reducible assumption) | assumption); omega)
                  have hx16 : ∀ h : 0 < a0.size, ((a0[0]'h).toNat : Int) = bt a0 0 := bt_at a0 0
                  clear p16
                  have qi16 : (0 < (a0.size : Int)) = True := eq_true (of_decide_eq_true (by first | (with_reducible assumption) | assumption))
                  replace q16 := eq_true q16
                  go_wp2_with (first | ((with_reducible refine gate_callee (f := 143) rfl ?_); refine goesL_ (some 42) rfl rfl Tryz.func143 (by kernel_rfl) rfl #[.string (⟨#[32, 33, 36, 37, 43, 45, 61, 64, 94, 123]⟩ : ByteArray), .int .u8 (bt a0 0)] rfl (by (try simp only [List.map_toArray, List.map_cons, List.map_nil]); first | done | rfl | (simp only [List.length_drop, List.length_take]; rfl)) ?_; (with_reducible refine (given_IndexByte.calls (⟨#[32, 33, 36, 37, 43, 45, 61, 64, 94, 123]⟩ : ByteArray) (bt a0 0) t105 _ A17.out).mono ?_); rintro e w' ⟨rfl, ⟨nd, rfl⟩⟩; refine ⟨_, rfl, ?_⟩))
                  go_ret
                  exact ⟨by first | rfl | (simp; done) | (simp [*]; done), by repeat (first | exact Drawn0.refl _ | apply Drawn0.step)⟩
              · rw [if_neg c15] at H
                exact absurd H (by simp)

/-! ### octal_IsWord: function 115 -/
def octal_IsWord.f (k : Nat) (a0 : ByteArray) : Option (Bool) := (octal_IsName.f k a0).bind fun t106 => (if t106 = true then ((given_IndexByte.f a0 32).bind fun t107 => (some (decide (t107 < 0)))) else (some false))
theorem octal_IsWord.mono : ∀ a0 k, LeO (octal_IsWord.f k a0) (octal_IsWord.f (k + 1) a0) := by
  intro a0 k
  unfold octal_IsWord.f
  repeat' first
      | (with_reducible exact octal_IsName.mono _ _)
      | (with_reducible exact LeO.refl _)
      | (with_reducible exact LeO.none _)
      | (with_reducible refine LeO.ite ?_ ?_)
      | (with_reducible refine LeO.bind ?_ (fun _ => ?_))
      | exact octal_IsName.mono _ _
      | exact LeO.none _
      | refine LeO.ite ?_ ?_
      | refine LeO.bind ?_ (fun _ => ?_)
set_option maxHeartbeats 8000000 in
set_option maxRecDepth 100000 in
theorem octal_IsWord.calls (k : Nat) (a0 : ByteArray) (r : Bool) (w : World) (h : octal_IsWord.f k a0 = some r) :
    Calls Tryz.prog 115 #[.string a0] w fun e w' => e = .returned (.bool r) ∧ Drawn0 w w' := by
  have H : ((octal_IsName.f k a0).bind fun t106 => (if t106 = true then ((given_IndexByte.f a0 32).bind fun t107 => (some (decide (t107 < 0)))) else (some false))) = some r := h
  clear h
  replace H := Option.bind_eq_some_iff.mp H
  obtain ⟨t106, A20, H⟩ := H
  replace H : (if t106 = true then ((given_IndexByte.f a0 32).bind fun t107 => (some (decide (t107 < 0)))) else (some false)) = some r := H
  have A2 := Aside0.mk A20
  clear A20
  by_cases c3 : t106 = true
  · subst c3
    have H1 : ((given_IndexByte.f a0 32).bind fun t107 => (some (decide (t107 < 0)))) = some r := by rw [if_pos rfl] at H; exact H
    clear H
    have H := H1
    clear H1
    replace H := Option.bind_eq_some_iff.mp H
    obtain ⟨t107, A40, H⟩ := H
    replace H : (some (decide (t107 < 0))) = some r := H
    have A4 := Aside0.mk A40
    clear A40
    obtain rfl := Option.some.inj H
    go_enter Tryz.func115, Tryz.ntmps115
    go_wp2_with (first | ((with_reducible refine gate_callee (f := 116) rfl ?_); refine goesL_ (some 4) rfl rfl Tryz.func116 (by kernel_rfl) rfl #[.string a0] rfl (by (try simp only [List.map_toArray, List.map_cons, List.map_nil]); first | done | rfl | (simp only [List.length_drop, List.length_take]; rfl)) ?_; (with_reducible refine (octal_IsName.calls k a0 true _ A2.out).mono ?_); rintro e w' ⟨rfl, ⟨nd, rfl⟩⟩; refine ⟨_, rfl, ?_⟩) | (go_at_call 143; (with_reducible refine (given_IndexByte.calls a0 32 t107 _ A4.out).mono ?_); rintro e w' ⟨rfl, ⟨nd, rfl⟩⟩))
    go_ret
    exact ⟨by first | rfl | (simp; done) | (simp [*]; done), by repeat (first | exact Drawn0.refl _ | apply Drawn0.step)⟩
  · replace c3 := Bool.eq_false_iff.mpr c3
    subst c3
    have H1 : (some false) = some r := by rw [if_neg (show ¬ (false = true) by decide)] at H; exact H
    clear H
    have H := H1
    clear H1
    obtain rfl := Option.some.inj H
    go_enter Tryz.func115, Tryz.ntmps115
    go_wp2_with (first | ((with_reducible refine gate_callee (f := 116) rfl ?_); refine goesL_ (some 4) rfl rfl Tryz.func116 (by kernel_rfl) rfl #[.string a0] rfl (by (try simp only [List.map_toArray, List.map_cons, List.map_nil]); first | done | rfl | (simp only [List.length_drop, List.length_take]; rfl)) ?_; (with_reducible refine (octal_IsName.calls k a0 false _ A2.out).mono ?_); rintro e w' ⟨rfl, ⟨nd, rfl⟩⟩; refine ⟨_, rfl, ?_⟩))
    go_ret
    exact ⟨by first | rfl | (simp; done) | (simp [*]; done), by repeat (first | exact Drawn0.refl _ | apply Drawn0.step)⟩

/-! ### wire_isPlanText: function 122 -/
def wire_isPlanText.l0 : Nat → ByteArray → Int → Option (Bool)
  | 0, _, _ => none
  | k + 1, x0, x3 => if x3 < (x0.size : Int) then (if 0 ≤ x3 then ((given_IndexByte.f (⟨#[48, 49, 50, 51, 52, 53, 54, 55, 56, 57, 97, 98, 99, 100, 101, 102, 120, 44, 123, 125, 91, 93]⟩ : ByteArray) (bt x0 x3)).bind fun t108 => (if t108 < 0 then (some false) else (wire_isPlanText.l0 k x0 (wrap64 (x3 + 1))))) else (none)) else (some (decide ((x0.size : Int) ≤ 2048)))
def wire_isPlanText.f (k : Nat) (a0 : ByteArray) : Option (Bool) := wire_isPlanText.l0 k a0 0
theorem wire_isPlanText.mono_l : ∀ k, (∀ y0 y1, LeO (wire_isPlanText.l0 k y0 y1) (wire_isPlanText.l0 (k + 1) y0 y1))
  | 0 => fun _ _ r h => by simp [wire_isPlanText.l0] at h
  | k + 1 => by
    have ih0 := wire_isPlanText.mono_l k
    · intro y0 y1
      unfold wire_isPlanText.l0
      repeat' first
      | (with_reducible exact ih0 _ _)
      | (with_reducible exact LeO.refl _)
      | (with_reducible exact LeO.none _)
      | (with_reducible refine LeO.ite ?_ ?_)
      | (with_reducible refine LeO.bind ?_ (fun _ => ?_))
      | exact ih0 _ _
      | exact LeO.none _
      | refine LeO.ite ?_ ?_
      | refine LeO.bind ?_ (fun _ => ?_)
theorem wire_isPlanText.mono : ∀ a0 k, LeO (wire_isPlanText.f k a0) (wire_isPlanText.f (k + 1) a0) := by
  intro a0 k
  have ih0 := wire_isPlanText.mono_l k
  unfold wire_isPlanText.f
  repeat' first
      | (with_reducible exact ih0 _ _)
      | (with_reducible exact LeO.refl _)
      | (with_reducible exact LeO.none _)
      | (with_reducible refine LeO.ite ?_ ?_)
      | (with_reducible refine LeO.bind ?_ (fun _ => ?_))
      | exact ih0 _ _
      | exact LeO.none _
      | refine LeO.ite ?_ ?_
      | refine LeO.bind ?_ (fun _ => ?_)
set_option maxHeartbeats 8000000 in
set_option maxRecDepth 100000 in
theorem wire_isPlanText.calls (k : Nat) (a0 : ByteArray) (r : Bool) (w : World) (h : wire_isPlanText.f k a0 = some r) :
    Calls Tryz.prog 122 #[.string a0] w fun e w' => e = .returned (.bool r) ∧ Drawn0 w w' := by
  have H : (wire_isPlanText.l0 k a0 0) = some r := h
  clear h
  have H' := Aside0.mk H
  clear H
  go_enter Tryz.func122, Tryz.ntmps122
  go_wp2
  (try simp only [Act.put, List.setIfInBounds_toArray, List.set_cons_zero, List.set_cons_succ])
  go_loopg [3] k (fun kq v3 w' => ∃ (x3_1 : Int), v3 = .int .i64 x3_1 ∧ Aside0 (wire_isPlanText.l0 kq a0 x3_1 = some r) ∧ Aside0 (kq ≤ k) ∧ Drawn0 w w')
  case atStart => exact ⟨(0), (by first | rfl | (simp; done) | (simp [*]; done)), H', ⟨Nat.le_refl _⟩, by repeat (first | exact Drawn0.refl _ | apply Drawn0.step)⟩
  case round =>
    clear H'
    try clear c1
    obtain ⟨x3_1, rfl, HA, HK1, ⟨m1, rfl⟩⟩ := hrel
    cases gk with
    | zero => exact absurd HA.out (by simp [wire_isPlanText.l0])
    | succ k1 =>
      have H := HA.out
      clear HA
      simp only [wire_isPlanText.l0] at H
      by_cases c2 : x3_1 < (a0.size : Int)
      · rw [if_pos c2] at H
        have c2b0 : decide (x3_1 < (a0.size : Int)) = true := decide_eq_true c2
        clear c2
        by_cases c3 : 0 ≤ x3_1
        · rw [if_pos c3] at H
          have c3b0 : decide (0 ≤ x3_1) = true := decide_eq_true c3
          clear c3
          replace H := Option.bind_eq_some_iff.mp H
          obtain ⟨t108, A50, H⟩ := H
          replace H : (if t108 < 0 then (some false) else (wire_isPlanText.l0 k1 a0 (wrap64 (x3_1 + 1)))) = some r := H
          have A5 := Aside0.mk A50
          clear A50
          by_cases c6 : t108 < 0
          · rw [if_pos c6] at H
            have c6b0 : decide (t108 < 0) = true := decide_eq_true c6
            clear c6
            obtain rfl := Option.some.inj H
            have p4 : 0 ≤ (x3_1 : Int) := of_decide_eq_true (by first | (with_reducible assumption) | assumption)
            have q4 : x3_1 < (a0.size : Int) := of_decide_eq_true (by first | (with_reducible assumption) | assumption)
            have hx4 := bt_at a0 x3_1
            replace p4 := eq_true p4
            replace q4 := eq_true q4
            go_wp2_with (first | ((with_reducible refine gate_callee (f := 143) rfl ?_); refine goesL_ (some 13) rfl rfl Tryz.func143 (by kernel_rfl) rfl #[.string (⟨#[48, 49, 50, 51, 52, 53, 54, 55, 56, 57, 97, 98, 99, 100, 101, 102, 120, 44, 123, 125, 91, 93]⟩ : ByteArray), .int .u8 (bt a0 x3_1)] rfl (by (try simp only [List.map_toArray, List.map_cons, List.map_nil]); first | done | rfl | (simp only [List.length_drop, List.length_take]; rfl)) ?_; (with_reducible refine (given_IndexByte.calls (⟨#[48, 49, 50, 51, 52, 53, 54, 55, 56, 57, 97, 98, 99, 100, 101, 102, 120, 44, 123, 125, 91, 93]⟩ : ByteArray) (bt a0 x3_1) t108 _ A5.out).mono ?_); rintro e w' ⟨rfl, ⟨nd, rfl⟩⟩; refine ⟨_, rfl, ?_⟩))
            go_ret
            exact ⟨by first | rfl | (simp; done) | (simp [*]; done), by repeat (first | exact Drawn0.refl _ | apply Drawn0.step)⟩
          · rw [if_neg c6] at H
            have c6b0 : decide (t108 < 0) = false := decide_eq_false c6
            clear c6
            have H' := Aside0.mk H
            clear H
            have p4 : 0 ≤ (x3_1 : Int) := of_decide_eq_true (by first | (with_reducible assumption) | assumption)
            have q4 : x3_1 < (a0.size : Int) := of_decide_eq_true (by first | (with_reducible assumption) | assumption)
            have hx4 := bt_at a0 x3_1
            replace p4 := eq_true p4
            replace q4 := eq_true q4
            go_wp2_with (first | ((with_reducible refine gate_callee (f := 143) rfl ?_); refine goesL_ (some 13) rfl rfl Tryz.func143 (by kernel_rfl) rfl #[.string (⟨#[48, 49, 50, 51, 52, 53, 54, 55, 56, 57, 97, 98, 99, 100, 101, 102, 120, 44, 123, 125, 91, 93]⟩ : ByteArray), .int .u8 (bt a0 x3_1)] rfl (by (try simp only [List.map_toArray, List.map_cons, List.map_nil]); first | done | rfl | (simp only [List.length_drop, List.length_take]; rfl)) ?_; (with_reducible refine (given_IndexByte.calls (⟨#[48, 49, 50, 51, 52, 53, 54, 55, 56, 57, 97, 98, 99, 100, 101, 102, 120, 44, 123, 125, 91, 93]⟩ : ByteArray) (bt a0 x3_1) t108 _ A5.out).mono ?_); rintro e w' ⟨rfl, ⟨nd, rfl⟩⟩; refine ⟨_, rfl, ?_⟩))
            go_roundg k1
            case measure => have := HK1.out; omega
            case rel => exact ⟨(wrap64 (x3_1 + 1)), (by first | rfl | (simp; done) | (simp [*]; done)), H', ⟨by have := HK1.out; omega⟩, by repeat (first | exact Drawn0.refl _ | apply Drawn0.step)⟩
        · rw [if_neg c3] at H
          exact absurd H (by simp)
      · rw [if_neg c2] at H
        have c2b0 : decide (x3_1 < (a0.size : Int)) = false := decide_eq_false c2
        clear c2
        obtain rfl := Option.some.inj H
        go_wp2
        go_ret
        exact ⟨by first | rfl | (simp; done) | (simp [*]; done), by repeat (first | exact Drawn0.refl _ | apply Drawn0.step)⟩

end Go.Proofs.YtnblabfkkcohgaaGreatDoor.POct
end
