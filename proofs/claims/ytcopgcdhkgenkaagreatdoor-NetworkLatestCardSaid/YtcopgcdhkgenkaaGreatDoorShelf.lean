import Derived.Shelf.Strings.Builder1
import Derived.Shelf.Strings.Builder2
import Derived.Shelf.Strings.OnBuilder
import Derived.Shelf.Small.Utf8
import Derived.Shelf.Small.Bits
import Derived.Shelf.Small.Strs
import Derived.Shelf.Small.Wraps
import Derived.Shelf.Strings.BuilderF
import Derived.Shelf.Strings.BuilderK
import Derived.Shelf.Utf8.RuneCount
import Derived.Shelf.Strings.Builder2Cap
import Derived.Shelf.Strconv.Atoi
import Derived.Shelf.Strconv.Itoa0
import Derived.Shelf.Strconv.Itoa1
import Derived.Shelf.LaysM
import Derived.Shelf.Strconv.Itoa2
import Derived.Shelf.Strconv.Itoa3
import Derived.Shelf.Strconv.AtoiErrFast
import Derived.Shelf.Strconv.ParseIntEmpty
import Derived.Shelf.Strconv.AtoiFail
import Derived.Shelf.Strconv.Clone
import Derived.Shelf.Strconv.SyntaxError
import Derived.Shelf.LaysC
import Derived.Shelf.Strconv.ToError
import Derived.Shelf.Strconv.Lower
import Derived.Shelf.Strconv.ParseUint10
import Derived.Shelf.Strconv.ParseUint10Empty
import Derived.Shelf.Strconv.ParseUint10Any
import Derived.Shelf.Strconv.ParseInt10
import Derived.Shelf.Strconv.AtoiLong
import Derived.Shelf.Strconv.AtoiInnerAll
import Derived.Shelf.Strconv.RangeError
import Derived.Shelf.Strconv.ToErrorRange
import Derived.Shelf.Strconv.AtoiAll
import Derived.Shelf.Strconv.ErrVarAll
import Derived.Shelf.Strings.Search1
import Derived.Shelf.Strings.Search2
import Derived.Shelf.Strings.Search3
import Derived.Shelf.Strings.Cut
import Derived.Shelf.Strings.Count
import Derived.Shelf.Strings.Shaped
import Derived.Shelf.Sort.Plain
import Derived.Shelf.Strings.Prefix
import Derived.Shelf.Strings.Split
import Derived.Shelf.Strings.SplitShaped
import Derived.Shelf.Unicode.Decode
import Derived.Shelf.Strings.Runes
import Derived.Shelf.Strings.RuneCount
import Derived.Shelf.Strings.AsciiSet
import Derived.Shelf.Bits.Mul64
import Derived.Shelf.Unicode.DecodeSlow
import Derived.Shelf.Strings.BuilderCap
import Derived.Shelf.Slices.Turned
import Derived.Shelf.Slices.Reverse
import Derived.Shelf.Slices.Equal
import Derived.Ground.Names2Prog
import Derived.Shelf.Slices.Clone
import Derived.Shelf.Slices.CompactS
import Derived.Shelf.Slices.In.SortNone
import Derived.Shelf.Slices.Empties2
import Derived.Test.YtcopgcdhkgenkaaGreatDoorProg
set_option linter.all false
namespace Go.Proofs
open Go.Shelf
def Tryz.lays170_ren:Go.Shelf.Ren:=⟨fun | 170=>190 | n=>n,fun | 70=>163 | 3=>3 | 0=>0 | 72=>165 | 37=>38 | 5=>5 | n=>n,fun | n=>n⟩
theorem Tryz.lays170:Go.Proofs.Lays.n170 Tryz.prog Tryz.lays170_ren:={
 mixed:=by kernel_rfl
 f170:=Tryz.func190.trans (congrArg some (by kernel_rfl))
 t0:=Tryz.underlying0
 a0:=Tryz.isAgg0
 z0:=Tryz.sizeOf0
 v0:=Tryz.zeroValue0
 t3:=Tryz.underlying3
 a3:=Tryz.isAgg3
 z3:=Tryz.sizeOf3
 v3:=Tryz.zeroValue3
 t37:=Tryz.underlying38
 a37:=Tryz.isAgg38
 z37:=Tryz.sizeOf38
 v37:=Tryz.zeroValue38
 t70:=Tryz.underlying163
 a70:=Tryz.isAgg163
 z70:=Tryz.sizeOf163
 v70:=Tryz.zeroValue163
 t72:=Tryz.underlying165
 a72:=Tryz.isAgg165
 z72:=Tryz.sizeOf165
 v72:=Tryz.zeroValue165 }
open Go.RowKit in
theorem Tryz.Builder_Len (B b:Nat) (bs:List Value) (w:World) (h:Lib.IsBuilder 165 5 B b bs w):
  Calls Tryz.prog 190 #[.pointer (some ⟨b,0,none⟩)] w fun e w'=>e=.returned (.int .i64 bs.length)/\w'=w:=Any.Builder_Len Tryz.lays170 B b bs w h
def Tryz.lays169_ren:Go.Shelf.Ren:=⟨fun | 169=>83 | n=>n,fun | 70=>163 | 9=>9 | 0=>0 | 72=>165 | 37=>38 | 127=>285 | 3=>3 | 5=>5 | n=>n,fun | n=>n⟩
theorem Tryz.lays169:Go.Proofs.Lays.n169 Tryz.prog Tryz.lays169_ren:={
 mixed:=by kernel_rfl
 f169:=Tryz.func83.trans (congrArg some (by kernel_rfl))
 t0:=Tryz.underlying0
 a0:=Tryz.isAgg0
 z0:=Tryz.sizeOf0
 v0:=Tryz.zeroValue0
 t3:=Tryz.underlying3
 a3:=Tryz.isAgg3
 z3:=Tryz.sizeOf3
 v3:=Tryz.zeroValue3
 t9:=Tryz.underlying9
 a9:=Tryz.isAgg9
 z9:=Tryz.sizeOf9
 v9:=Tryz.zeroValue9
 t37:=Tryz.underlying38
 a37:=Tryz.isAgg38
 z37:=Tryz.sizeOf38
 v37:=Tryz.zeroValue38
 t70:=Tryz.underlying163
 a70:=Tryz.isAgg163
 z70:=Tryz.sizeOf163
 v70:=Tryz.zeroValue163
 t72:=Tryz.underlying165
 a72:=Tryz.isAgg165
 z72:=Tryz.sizeOf165
 v72:=Tryz.zeroValue165
 t127:=Tryz.underlying285
 a127:=Tryz.isAgg285
 z127:=Tryz.sizeOf285
 v127:=Tryz.zeroValue285 }
theorem Tryz.Builder_Extra_169:Builder.Extra Tryz.prog Tryz.lays169_ren:={
 sizeBuilder:=by kernel_rfl
 liesBuilder:=by kernel_rfl
 t5:=Tryz.underlying5
 a5:=Tryz.isAgg5
 z5:=Tryz.sizeOf5
 v5:=Tryz.zeroValue5
 infoByte:=by kernel_rfl
 cellsByte:=by kernel_rfl
 sizeByte:=by kernel_rfl
 neB5:=by decide }
open Go.RowKit in
theorem Tryz.Builder_String_any (B b:Nat) (l:List UInt8) (w:World) (h:Lib.IsBuilder 165 5 B b (Lib.byteCells l) w) (hBw:B<=w.heap.size):
  Calls Tryz.prog 83 #[.pointer (some ⟨b,0,none⟩)] w fun e w'=>e=.returned (.string ⟨l.toArray⟩)/\Below B w w':=Any.Builder_String_any Tryz.lays169 Tryz.Builder_Extra_169 B b l w h hBw
def Tryz.lays125_ren:Go.Shelf.Ren:=⟨fun | 125=>263 | 128=>337 | 129=>338 | n=>n,fun | 46=>96 | 3=>3 | 51=>95 | 53=>175 | 4=>4 | 5=>5 | 9=>9 | n=>n,fun | n=>n⟩
theorem Tryz.lays125:Go.Proofs.Lays.n125 Tryz.prog Tryz.lays125_ren:={
 mixed:=by kernel_rfl
 f125:=Tryz.func263.trans (congrArg some (by kernel_rfl))
 f128:=Tryz.func337.trans (congrArg some (by kernel_rfl))
 f129:=Tryz.func338.trans (congrArg some (by kernel_rfl))
 t3:=Tryz.underlying3
 a3:=Tryz.isAgg3
 z3:=Tryz.sizeOf3
 v3:=Tryz.zeroValue3
 t4:=Tryz.underlying4
 a4:=Tryz.isAgg4
 z4:=Tryz.sizeOf4
 v4:=Tryz.zeroValue4
 t5:=Tryz.underlying5
 a5:=Tryz.isAgg5
 z5:=Tryz.sizeOf5
 v5:=Tryz.zeroValue5
 t9:=Tryz.underlying9
 a9:=Tryz.isAgg9
 z9:=Tryz.sizeOf9
 v9:=Tryz.zeroValue9
 t46:=Tryz.underlying96
 a46:=Tryz.isAgg96
 z46:=Tryz.sizeOf96
 v46:=Tryz.zeroValue96
 t51:=Tryz.underlying95
 a51:=Tryz.isAgg95
 z51:=Tryz.sizeOf95
 v51:=Tryz.zeroValue95
 t53:=Tryz.underlying175
 a53:=Tryz.isAgg175
 z53:=Tryz.sizeOf175
 v53:=Tryz.zeroValue175 }
theorem Tryz.bits_Len (x:Int) (w:World) (h0:0<=x) (h1:x<=18446744073709551615):
  Calls Tryz.prog 263 #[.int .u64 x] w fun e w'=>e=.returned (.int .i64 (Lib.bitLen x.toNat))/\w'=w:=Any.bits_Len Tryz.lays125 x w h0 h1
def Tryz.lays122_ren:Go.Shelf.Ren:=⟨fun | 122=>193 | 215=>264 | n=>n,fun | 3=>3 | 4=>4 | n=>n,fun | n=>n⟩
theorem Tryz.lays122:Go.Proofs.Lays.n122 Tryz.prog Tryz.lays122_ren:={
 mixed:=by kernel_rfl
 f122:=Tryz.func193.trans (congrArg some (by kernel_rfl))
 f215:=Tryz.func264.trans (congrArg some (by kernel_rfl))
 t3:=Tryz.underlying3
 a3:=Tryz.isAgg3
 z3:=Tryz.sizeOf3
 v3:=Tryz.zeroValue3
 t4:=Tryz.underlying4
 a4:=Tryz.isAgg4
 z4:=Tryz.sizeOf4
 v4:=Tryz.zeroValue4 }
open Go.RowKit in
theorem Tryz.cmp_Compare_int (x y:Int) (w:World):
  Calls Tryz.prog 193 #[.int .i64 x,.int .i64 y] w fun e w'=>e=.returned (.int .i64 (Lib.compareInt x y))/\w'=w:=Any.cmp_Compare_int Tryz.lays122 x y w
def Tryz.lays172_ren:Go.Shelf.Ren:=⟨fun | 172=>310 | 244=>391 | 245=>392 | 247=>455 | 279=>456 | 280=>457 | 281=>458 | 282=>459 | 287=>541 | 316=>323 | 171=>315 | 205=>542 | 321=>597 | 322=>598 | 243=>403 | 246=>498 | 283=>565 | 284=>566 | 285=>567 | 286=>568 | 129=>338 | 317=>610 | 318=>611 | 319=>612 | 320=>613 | 337=>633 | 338=>634 | n=>n,fun | 9=>9 | 3=>3 | 75=>101 | 76=>279 | 4=>4 | 5=>5 | 167=>652 | 37=>38 | 0=>0 | 85=>653 | 2=>2 | 168=>655 | 53=>175 | 175=>719 | 46=>96 | 210=>722 | 127=>285 | 145=>770 | 143=>768 | 21=>21 | 171=>743 | 173=>745 | 212=>776 | 51=>95 | 20=>20 | 213=>777 | 232=>801 | 233=>802 | 80=>174 | n=>n,fun | 15=>5 | 16=>6 | 17=>7 | 18=>10 | 19=>11 | n=>n⟩
theorem Tryz.lays172:Go.Proofs.Lays.n172 Tryz.prog Tryz.lays172_ren:={
 mixed:=by kernel_rfl
 f129:=Tryz.func338.trans (congrArg some (by kernel_rfl))
 f171:=Tryz.func315.trans (congrArg some (by kernel_rfl))
 f172:=Tryz.func310.trans (congrArg some (by kernel_rfl))
 f205:=Tryz.func542.trans (congrArg some (by kernel_rfl))
 f243:=Tryz.func403.trans (congrArg some (by kernel_rfl))
 f244:=Tryz.func391.trans (congrArg some (by kernel_rfl))
 f245:=Tryz.func392.trans (congrArg some (by kernel_rfl))
 f246:=Tryz.func498.trans (congrArg some (by kernel_rfl))
 f247:=Tryz.func455.trans (congrArg some (by kernel_rfl))
 f279:=Tryz.func456.trans (congrArg some (by kernel_rfl))
 f280:=Tryz.func457.trans (congrArg some (by kernel_rfl))
 f281:=Tryz.func458.trans (congrArg some (by kernel_rfl))
 f282:=Tryz.func459.trans (congrArg some (by kernel_rfl))
 f283:=Tryz.func565.trans (congrArg some (by kernel_rfl))
 f284:=Tryz.func566.trans (congrArg some (by kernel_rfl))
 f285:=Tryz.func567.trans (congrArg some (by kernel_rfl))
 f286:=Tryz.func568.trans (congrArg some (by kernel_rfl))
 f287:=Tryz.func541.trans (congrArg some (by kernel_rfl))
 f316:=Tryz.func323.trans (congrArg some (by kernel_rfl))
 f317:=Tryz.func610.trans (congrArg some (by kernel_rfl))
 f318:=Tryz.func611.trans (congrArg some (by kernel_rfl))
 f319:=Tryz.func612.trans (congrArg some (by kernel_rfl))
 f320:=Tryz.func613.trans (congrArg some (by kernel_rfl))
 f321:=Tryz.func597.trans (congrArg some (by kernel_rfl))
 f322:=Tryz.func598.trans (congrArg some (by kernel_rfl))
 f337:=Tryz.func633.trans (congrArg some (by kernel_rfl))
 f338:=Tryz.func634.trans (congrArg some (by kernel_rfl))
 t0:=Tryz.underlying0
 a0:=Tryz.isAgg0
 z0:=Tryz.sizeOf0
 v0:=Tryz.zeroValue0
 t2:=Tryz.underlying2
 a2:=Tryz.isAgg2
 z2:=Tryz.sizeOf2
 v2:=Tryz.zeroValue2
 t3:=Tryz.underlying3
 a3:=Tryz.isAgg3
 z3:=Tryz.sizeOf3
 v3:=Tryz.zeroValue3
 t4:=Tryz.underlying4
 a4:=Tryz.isAgg4
 z4:=Tryz.sizeOf4
 v4:=Tryz.zeroValue4
 t5:=Tryz.underlying5
 a5:=Tryz.isAgg5
 z5:=Tryz.sizeOf5
 v5:=Tryz.zeroValue5
 t9:=Tryz.underlying9
 a9:=Tryz.isAgg9
 z9:=Tryz.sizeOf9
 v9:=Tryz.zeroValue9
 t20:=Tryz.underlying20
 a20:=Tryz.isAgg20
 z20:=Tryz.sizeOf20
 v20:=Tryz.zeroValue20
 t21:=Tryz.underlying21
 a21:=Tryz.isAgg21
 z21:=Tryz.sizeOf21
 v21:=Tryz.zeroValue21
 t37:=Tryz.underlying38
 a37:=Tryz.isAgg38
 z37:=Tryz.sizeOf38
 v37:=Tryz.zeroValue38
 t46:=Tryz.underlying96
 a46:=Tryz.isAgg96
 z46:=Tryz.sizeOf96
 v46:=Tryz.zeroValue96
 t51:=Tryz.underlying95
 a51:=Tryz.isAgg95
 z51:=Tryz.sizeOf95
 v51:=Tryz.zeroValue95
 t53:=Tryz.underlying175
 a53:=Tryz.isAgg175
 z53:=Tryz.sizeOf175
 v53:=Tryz.zeroValue175
 t75:=Tryz.underlying101
 a75:=Tryz.isAgg101
 z75:=Tryz.sizeOf101
 v75:=Tryz.zeroValue101
 t76:=Tryz.underlying279
 a76:=Tryz.isAgg279
 z76:=Tryz.sizeOf279
 v76:=Tryz.zeroValue279
 t85:=Tryz.underlying653
 a85:=Tryz.isAgg653
 z85:=Tryz.sizeOf653
 v85:=Tryz.zeroValue653
 t127:=Tryz.underlying285
 a127:=Tryz.isAgg285
 z127:=Tryz.sizeOf285
 v127:=Tryz.zeroValue285
 t143:=Tryz.underlying768
 a143:=Tryz.isAgg768
 z143:=Tryz.sizeOf768
 v143:=Tryz.zeroValue768
 t145:=Tryz.underlying770
 a145:=Tryz.isAgg770
 z145:=Tryz.sizeOf770
 v145:=Tryz.zeroValue770
 t167:=Tryz.underlying652
 a167:=Tryz.isAgg652
 z167:=Tryz.sizeOf652
 v167:=Tryz.zeroValue652
 t168:=Tryz.underlying655
 a168:=Tryz.isAgg655
 z168:=Tryz.sizeOf655
 v168:=Tryz.zeroValue655
 t171:=Tryz.underlying743
 a171:=Tryz.isAgg743
 z171:=Tryz.sizeOf743
 v171:=Tryz.zeroValue743
 t173:=Tryz.underlying745
 a173:=Tryz.isAgg745
 z173:=Tryz.sizeOf745
 v173:=Tryz.zeroValue745
 t175:=Tryz.underlying719
 a175:=Tryz.isAgg719
 z175:=Tryz.sizeOf719
 v175:=Tryz.zeroValue719
 t210:=Tryz.underlying722
 a210:=Tryz.isAgg722
 z210:=Tryz.sizeOf722
 v210:=Tryz.zeroValue722
 t212:=Tryz.underlying776
 a212:=Tryz.isAgg776
 z212:=Tryz.sizeOf776
 v212:=Tryz.zeroValue776
 t213:=Tryz.underlying777
 a213:=Tryz.isAgg777
 z213:=Tryz.sizeOf777
 t232:=Tryz.underlying801
 a232:=Tryz.isAgg801
 z232:=Tryz.sizeOf801
 v232:=Tryz.zeroValue801
 t233:=Tryz.underlying802
 a233:=Tryz.isAgg802
 z233:=Tryz.sizeOf802
 v233:=Tryz.zeroValue802
 g15:=by kernel_rfl
 g16:=by kernel_rfl
 g17:=by kernel_rfl
 g18:=by kernel_rfl
 g19:=by kernel_rfl }
open Go.RowKit in
theorem Tryz.strconv_Atoi (s:ByteArray) (n:Int) (hl:s.size<=18) (h:Lib.atoi s.data.toList=some n) (w:World):
  Calls Tryz.prog 310 #[.string s] w fun e w'=>e=.returned (.tuple #[.int .i64 n,.nilIface])/\∃ t,w'=Lib.bytesWorld w 5 t:=Any.strconv_Atoi Tryz.lays172 s n hl h w
def Tryz.laysM171_ren:Go.Shelf.Ren:=⟨fun | 171=>315 | 243=>403 | 246=>498 | 283=>565 | 284=>566 | 285=>567 | 286=>568 | 129=>338 | 317=>610 | 318=>611 | 319=>612 | 320=>613 | 337=>633 | 338=>634 | n=>n,fun | 3=>3 | 9=>9 | 2=>2 | 4=>4 | 171=>743 | 0=>0 | 53=>175 | 37=>38 | 5=>5 | 173=>745 | 212=>776 | 51=>95 | 20=>20 | 213=>777 | 46=>96 | 232=>801 | 233=>802 | n=>n,fun | 17=>7 | 18=>10 | 19=>11 | n=>n⟩
theorem Tryz.laysM171:Go.Proofs.LaysM.n171 Tryz.prog Tryz.laysM171_ren:={
 mixed:=by kernel_rfl
 f129:=Tryz.func338.trans (congrArg some (by kernel_rfl))
 f171:=Tryz.func315.trans (congrArg some (by kernel_rfl))
 f243:=Tryz.func403.trans (congrArg some (by kernel_rfl))
 f246:=Tryz.func498.trans (congrArg some (by kernel_rfl))
 f283:=Tryz.func565.trans (congrArg some (by kernel_rfl))
 f284:=Tryz.func566.trans (congrArg some (by kernel_rfl))
 f285:=Tryz.func567.trans (congrArg some (by kernel_rfl))
 f286:=Tryz.func568.trans (congrArg some (by kernel_rfl))
 f317:=Tryz.func610.trans (congrArg some (by kernel_rfl))
 f318:=Tryz.func611.trans (congrArg some (by kernel_rfl))
 f319:=Tryz.func612.trans (congrArg some (by kernel_rfl))
 f320:=Tryz.func613.trans (congrArg some (by kernel_rfl))
 f337:=Tryz.func633.trans (congrArg some (by kernel_rfl))
 f338:=Tryz.func634.trans (congrArg some (by kernel_rfl))
 t0:=Tryz.underlying0
 a0:=Tryz.isAgg0
 z0:=Tryz.sizeOf0
 v0:=Tryz.zeroValue0
 t2:=Tryz.underlying2
 a2:=Tryz.isAgg2
 z2:=Tryz.sizeOf2
 v2:=Tryz.zeroValue2
 t3:=Tryz.underlying3
 a3:=Tryz.isAgg3
 z3:=Tryz.sizeOf3
 v3:=Tryz.zeroValue3
 t4:=Tryz.underlying4
 a4:=Tryz.isAgg4
 z4:=Tryz.sizeOf4
 v4:=Tryz.zeroValue4
 t5:=Tryz.underlying5
 a5:=Tryz.isAgg5
 z5:=Tryz.sizeOf5
 v5:=Tryz.zeroValue5
 t9:=Tryz.underlying9
 a9:=Tryz.isAgg9
 z9:=Tryz.sizeOf9
 v9:=Tryz.zeroValue9
 t20:=Tryz.underlying20
 a20:=Tryz.isAgg20
 z20:=Tryz.sizeOf20
 v20:=Tryz.zeroValue20
 t37:=Tryz.underlying38
 a37:=Tryz.isAgg38
 z37:=Tryz.sizeOf38
 v37:=Tryz.zeroValue38
 t46:=Tryz.underlying96
 a46:=Tryz.isAgg96
 z46:=Tryz.sizeOf96
 v46:=Tryz.zeroValue96
 t51:=Tryz.underlying95
 a51:=Tryz.isAgg95
 z51:=Tryz.sizeOf95
 v51:=Tryz.zeroValue95
 t53:=Tryz.underlying175
 a53:=Tryz.isAgg175
 z53:=Tryz.sizeOf175
 v53:=Tryz.zeroValue175
 t171:=Tryz.underlying743
 a171:=Tryz.isAgg743
 z171:=Tryz.sizeOf743
 v171:=Tryz.zeroValue743
 t173:=Tryz.underlying745
 a173:=Tryz.isAgg745
 z173:=Tryz.sizeOf745
 v173:=Tryz.zeroValue745
 t212:=Tryz.underlying776
 a212:=Tryz.isAgg776
 z212:=Tryz.sizeOf776
 v212:=Tryz.zeroValue776
 t213:=Tryz.underlying777
 a213:=Tryz.isAgg777
 z213:=Tryz.sizeOf777
 t232:=Tryz.underlying801
 a232:=Tryz.isAgg801
 z232:=Tryz.sizeOf801
 v232:=Tryz.zeroValue801
 t233:=Tryz.underlying802
 a233:=Tryz.isAgg802
 z233:=Tryz.sizeOf802
 v233:=Tryz.zeroValue802
 g17:=by kernel_rfl
 g18:=by kernel_rfl
 g19:=by kernel_rfl
 i0:=by kernel_rfl
 i2:=by kernel_rfl
 i3:=by kernel_rfl
 i4:=by kernel_rfl
 i5:=by kernel_rfl
 i9:=by kernel_rfl
 i20:=by kernel_rfl
 i37:=by kernel_rfl
 i46:=by kernel_rfl
 i51:=by kernel_rfl
 i53:=by kernel_rfl
 i171:=by kernel_rfl
 i173:=by kernel_rfl
 i212:=by kernel_rfl
 i232:=by kernel_rfl
 i233:=by kernel_rfl
 m17:=by kernel_rfl
 m18:=by kernel_rfl
 m19:=by kernel_rfl }
open Go.RowKit Go.Sort Go.Lib in
theorem Tryz.strconv_Itoa (n : Int) (h0 : -9223372036854775808 <= n) (h1 : n <= 9223372036854775807) (w : World) (htab : Lib.TabIs Tryz.prog w "internal/strconv.uint64pow10" .u64 Lib.pow10Tab) :
  Calls Tryz.prog 315 #[.int .i64 n] w fun e w'=>e=.returned (.string ⟨(Lib.itoa n).toArray⟩)/\∃ k os,w'=grow (w.drewN k) os:=Any.strconv_Itoa Tryz.laysM171 n h0 h1 w htab
def Tryz.lays145_ren:Go.Shelf.Ren:=⟨fun | 145=>702 | 220=>716 | 219=>540 | 217=>593 | 225=>594 | 224=>595 | 267=>596 | 266=>622 | 314=>623 | n=>n,fun | 9=>9 | 4=>4 | 59=>830 | 3=>3 | 5=>5 | 46=>96 | 146=>558 | 51=>95 | n=>n,fun | 1=>4 | n=>n⟩
theorem Tryz.lays145:Go.Proofs.Lays.n145 Tryz.prog Tryz.lays145_ren:={
 mixed:=by kernel_rfl
 f145:=Tryz.func702.trans (congrArg some (by kernel_rfl))
 f217:=Tryz.func593.trans (congrArg some (by kernel_rfl))
 f219:=Tryz.func540.trans (congrArg some (by kernel_rfl))
 f220:=Tryz.func716.trans (congrArg some (by kernel_rfl))
 f224:=Tryz.func595.trans (congrArg some (by kernel_rfl))
 f225:=Tryz.func594.trans (congrArg some (by kernel_rfl))
 f266:=Tryz.func622.trans (congrArg some (by kernel_rfl))
 f267:=Tryz.func596.trans (congrArg some (by kernel_rfl))
 f314:=Tryz.func623.trans (congrArg some (by kernel_rfl))
 t3:=Tryz.underlying3
 a3:=Tryz.isAgg3
 z3:=Tryz.sizeOf3
 v3:=Tryz.zeroValue3
 t4:=Tryz.underlying4
 a4:=Tryz.isAgg4
 z4:=Tryz.sizeOf4
 v4:=Tryz.zeroValue4
 t5:=Tryz.underlying5
 a5:=Tryz.isAgg5
 z5:=Tryz.sizeOf5
 v5:=Tryz.zeroValue5
 t9:=Tryz.underlying9
 a9:=Tryz.isAgg9
 z9:=Tryz.sizeOf9
 v9:=Tryz.zeroValue9
 t46:=Tryz.underlying96
 a46:=Tryz.isAgg96
 z46:=Tryz.sizeOf96
 v46:=Tryz.zeroValue96
 t51:=Tryz.underlying95
 a51:=Tryz.isAgg95
 z51:=Tryz.sizeOf95
 v51:=Tryz.zeroValue95
 t59:=Tryz.underlying830
 a59:=Tryz.isAgg830
 z59:=Tryz.sizeOf830
 v59:=Tryz.zeroValue830
 t146:=Tryz.underlying558
 a146:=Tryz.isAgg558
 z146:=Tryz.sizeOf558
 v146:=Tryz.zeroValue558
 g1:=by kernel_rfl }
open Go.RowKit Go.Lib in
theorem Tryz.strings_Cut (s sep:ByteArray) (m:Int) (w:World) (hs:s.size < 4294967281) (hm:w.cell? ⟨4,0,none⟩=some (.int .i64 m)):
  Calls Tryz.prog 702 #[.string s,.string sep] w fun e w'=>e=.returned (.tuple #[.string ⟨(Lib.cut s.data.toList sep.data.toList).1.toArray⟩,.string ⟨(Lib.cut s.data.toList sep.data.toList).2.1.toArray⟩,.bool (Lib.cut s.data.toList sep.data.toList).2.2])/\∃ n,w'=w.drewN n:=Any.strings_Cut Tryz.lays145 s sep m w hs hm
def Tryz.lays189_ren:Go.Shelf.Ren:=⟨fun | 189=>240 | 125=>263 | 257=>306 | 128=>337 | 129=>338 | 294=>381 | 295=>382 | 296=>383 | 297=>384 | 298=>385 | 299=>386 | 216=>387 | 300=>388 | 301=>389 | 328=>449 | 329=>420 | 330=>421 | 331=>450 | 332=>451 | 215=>264 | 343=>536 | n=>n,fun | 28=>31 | 3=>3 | 46=>96 | 0=>0 | 51=>95 | 53=>175 | 4=>4 | 183=>537 | 182=>536 | 131=>541 | 5=>5 | 9=>9 | 218=>629 | 222=>486 | 228=>692 | 229=>283 | n=>n,fun | n=>n⟩
theorem Tryz.lays189:Go.Proofs.Lays.n189 Tryz.prog Tryz.lays189_ren:={
 mixed:=by kernel_rfl
 f125:=Tryz.func263.trans (congrArg some (by kernel_rfl))
 f128:=Tryz.func337.trans (congrArg some (by kernel_rfl))
 f129:=Tryz.func338.trans (congrArg some (by kernel_rfl))
 f189:=Tryz.func240.trans (congrArg some (by kernel_rfl))
 f215:=Tryz.func264.trans (congrArg some (by kernel_rfl))
 f216:=Tryz.func387.trans (congrArg some (by kernel_rfl))
 f257:=Tryz.func306.trans (congrArg some (by kernel_rfl))
 f294:=Tryz.func381.trans (congrArg some (by kernel_rfl))
 f295:=Tryz.func382.trans (congrArg some (by kernel_rfl))
 f296:=Tryz.func383.trans (congrArg some (by kernel_rfl))
 f297:=Tryz.func384.trans (congrArg some (by kernel_rfl))
 f298:=Tryz.func385.trans (congrArg some (by kernel_rfl))
 f299:=Tryz.func386.trans (congrArg some (by kernel_rfl))
 f300:=Tryz.func388.trans (congrArg some (by kernel_rfl))
 f301:=Tryz.func389.trans (congrArg some (by kernel_rfl))
 f328:=Tryz.func449.trans (congrArg some (by kernel_rfl))
 f329:=Tryz.func420.trans (congrArg some (by kernel_rfl))
 f330:=Tryz.func421.trans (congrArg some (by kernel_rfl))
 f331:=Tryz.func450.trans (congrArg some (by kernel_rfl))
 f332:=Tryz.func451.trans (congrArg some (by kernel_rfl))
 f343:=Tryz.func536.trans (congrArg some (by kernel_rfl))
 t0:=Tryz.underlying0
 a0:=Tryz.isAgg0
 z0:=Tryz.sizeOf0
 v0:=Tryz.zeroValue0
 t3:=Tryz.underlying3
 a3:=Tryz.isAgg3
 z3:=Tryz.sizeOf3
 v3:=Tryz.zeroValue3
 t4:=Tryz.underlying4
 a4:=Tryz.isAgg4
 z4:=Tryz.sizeOf4
 v4:=Tryz.zeroValue4
 t5:=Tryz.underlying5
 a5:=Tryz.isAgg5
 z5:=Tryz.sizeOf5
 v5:=Tryz.zeroValue5
 t9:=Tryz.underlying9
 a9:=Tryz.isAgg9
 z9:=Tryz.sizeOf9
 v9:=Tryz.zeroValue9
 t28:=Tryz.underlying31
 a28:=Tryz.isAgg31
 z28:=Tryz.sizeOf31
 v28:=Tryz.zeroValue31
 t46:=Tryz.underlying96
 a46:=Tryz.isAgg96
 z46:=Tryz.sizeOf96
 v46:=Tryz.zeroValue96
 t51:=Tryz.underlying95
 a51:=Tryz.isAgg95
 z51:=Tryz.sizeOf95
 v51:=Tryz.zeroValue95
 t53:=Tryz.underlying175
 a53:=Tryz.isAgg175
 z53:=Tryz.sizeOf175
 v53:=Tryz.zeroValue175
 t131:=Tryz.underlying541
 a131:=Tryz.isAgg541
 z131:=Tryz.sizeOf541
 v131:=Tryz.zeroValue541
 t182:=Tryz.underlying536
 a182:=Tryz.isAgg536
 z182:=Tryz.sizeOf536
 v182:=Tryz.zeroValue536
 t183:=Tryz.underlying537
 a183:=Tryz.isAgg537
 z183:=Tryz.sizeOf537
 v183:=Tryz.zeroValue537
 t218:=Tryz.underlying629
 a218:=Tryz.isAgg629
 z218:=Tryz.sizeOf629
 v218:=Tryz.zeroValue629
 t222:=Tryz.underlying486
 a222:=Tryz.isAgg486
 z222:=Tryz.sizeOf486
 v222:=Tryz.zeroValue486
 t228:=Tryz.underlying692
 a228:=Tryz.isAgg692
 z228:=Tryz.sizeOf692
 v228:=Tryz.zeroValue692
 t229:=Tryz.underlying283
 a229:=Tryz.isAgg283
 z229:=Tryz.sizeOf283
 v229:=Tryz.zeroValue283 }
def Tryz.lays190_ren:Go.Shelf.Ren:=⟨fun | 190=>304 | 125=>263 | 258=>380 | 128=>337 | 129=>338 | 302=>440 | 303=>441 | 304=>442 | 305=>443 | 306=>444 | 307=>445 | 308=>446 | 309=>447 | 310=>448 | 333=>533 | 329=>420 | 330=>421 | 334=>534 | 335=>535 | 336=>325 | 344=>591 | n=>n,fun | 31=>40 | 9=>9 | 3=>3 | 46=>96 | 0=>0 | 51=>95 | 53=>175 | 4=>4 | 183=>537 | 182=>536 | 131=>541 | 5=>5 | 218=>629 | 222=>486 | 228=>692 | 229=>283 | n=>n,fun | n=>n⟩
theorem Tryz.lays190:Go.Proofs.Lays.n190 Tryz.prog Tryz.lays190_ren:={
 mixed:=by kernel_rfl
 f125:=Tryz.func263.trans (congrArg some (by kernel_rfl))
 f128:=Tryz.func337.trans (congrArg some (by kernel_rfl))
 f129:=Tryz.func338.trans (congrArg some (by kernel_rfl))
 f190:=Tryz.func304.trans (congrArg some (by kernel_rfl))
 f258:=Tryz.func380.trans (congrArg some (by kernel_rfl))
 f302:=Tryz.func440.trans (congrArg some (by kernel_rfl))
 f303:=Tryz.func441.trans (congrArg some (by kernel_rfl))
 f304:=Tryz.func442.trans (congrArg some (by kernel_rfl))
 f305:=Tryz.func443.trans (congrArg some (by kernel_rfl))
 f306:=Tryz.func444.trans (congrArg some (by kernel_rfl))
 f307:=Tryz.func445.trans (congrArg some (by kernel_rfl))
 f308:=Tryz.func446.trans (congrArg some (by kernel_rfl))
 f309:=Tryz.func447.trans (congrArg some (by kernel_rfl))
 f310:=Tryz.func448.trans (congrArg some (by kernel_rfl))
 f329:=Tryz.func420.trans (congrArg some (by kernel_rfl))
 f330:=Tryz.func421.trans (congrArg some (by kernel_rfl))
 f333:=Tryz.func533.trans (congrArg some (by kernel_rfl))
 f334:=Tryz.func534.trans (congrArg some (by kernel_rfl))
 f335:=Tryz.func535.trans (congrArg some (by kernel_rfl))
 f336:=Tryz.func325.trans (congrArg some (by kernel_rfl))
 f344:=Tryz.func591.trans (congrArg some (by kernel_rfl))
 t0:=Tryz.underlying0
 a0:=Tryz.isAgg0
 z0:=Tryz.sizeOf0
 v0:=Tryz.zeroValue0
 t3:=Tryz.underlying3
 a3:=Tryz.isAgg3
 z3:=Tryz.sizeOf3
 v3:=Tryz.zeroValue3
 t4:=Tryz.underlying4
 a4:=Tryz.isAgg4
 z4:=Tryz.sizeOf4
 v4:=Tryz.zeroValue4
 t5:=Tryz.underlying5
 a5:=Tryz.isAgg5
 z5:=Tryz.sizeOf5
 v5:=Tryz.zeroValue5
 t9:=Tryz.underlying9
 a9:=Tryz.isAgg9
 z9:=Tryz.sizeOf9
 v9:=Tryz.zeroValue9
 t31:=Tryz.underlying40
 a31:=Tryz.isAgg40
 z31:=Tryz.sizeOf40
 v31:=Tryz.zeroValue40
 t46:=Tryz.underlying96
 a46:=Tryz.isAgg96
 z46:=Tryz.sizeOf96
 v46:=Tryz.zeroValue96
 t51:=Tryz.underlying95
 a51:=Tryz.isAgg95
 z51:=Tryz.sizeOf95
 v51:=Tryz.zeroValue95
 t53:=Tryz.underlying175
 a53:=Tryz.isAgg175
 z53:=Tryz.sizeOf175
 v53:=Tryz.zeroValue175
 t131:=Tryz.underlying541
 a131:=Tryz.isAgg541
 z131:=Tryz.sizeOf541
 v131:=Tryz.zeroValue541
 t182:=Tryz.underlying536
 a182:=Tryz.isAgg536
 z182:=Tryz.sizeOf536
 v182:=Tryz.zeroValue536
 t183:=Tryz.underlying537
 a183:=Tryz.isAgg537
 z183:=Tryz.sizeOf537
 v183:=Tryz.zeroValue537
 t218:=Tryz.underlying629
 a218:=Tryz.isAgg629
 z218:=Tryz.sizeOf629
 v218:=Tryz.zeroValue629
 t222:=Tryz.underlying486
 a222:=Tryz.isAgg486
 z222:=Tryz.sizeOf486
 v222:=Tryz.zeroValue486
 t228:=Tryz.underlying692
 a228:=Tryz.isAgg692
 z228:=Tryz.sizeOf692
 v228:=Tryz.zeroValue692
 t229:=Tryz.underlying283
 a229:=Tryz.isAgg283
 z229:=Tryz.sizeOf283
 v229:=Tryz.zeroValue283 }
open Go.Sort Go.RowKit in
theorem Tryz.slices_Sort_string (blk off cap:Nat) (ss:List (List UInt8)) (w:World) (hH:Holds encStr w blk off ss.toArray) (hblk:blk < w.heap.size) (hsz:ss.length < 4611686018427387904):
  Calls Tryz.prog 304 #[.slice (some ⟨blk,off,none⟩) ss.length cap] w fun e w'=>
   e=.returned (.tuple #[])/\∃ n os,w'=grow (putRow encStr (Sort.ahead w n) blk off (ss.mergeSort fun x y=>decide (x<=y)).toArray) os:=Any.slices_Sort_string Tryz.lays190 blk off cap ss w hH hblk hsz
def Tryz.lays99_ren:Go.Shelf.Ren:=⟨fun | 99=>280 | 206=>360 | n=>n,fun | 9=>9 | 4=>4 | 3=>3 | n=>n,fun | n=>n⟩
theorem Tryz.lays99:Go.Proofs.Lays.n99 Tryz.prog Tryz.lays99_ren:={
 mixed:=by kernel_rfl
 f99:=Tryz.func280.trans (congrArg some (by kernel_rfl))
 f206:=Tryz.func360.trans (congrArg some (by kernel_rfl))
 t3:=Tryz.underlying3
 a3:=Tryz.isAgg3
 z3:=Tryz.sizeOf3
 v3:=Tryz.zeroValue3
 t4:=Tryz.underlying4
 a4:=Tryz.isAgg4
 z4:=Tryz.sizeOf4
 v4:=Tryz.zeroValue4
 t9:=Tryz.underlying9
 a9:=Tryz.isAgg9
 z9:=Tryz.sizeOf9
 v9:=Tryz.zeroValue9 }
open Go.RowKit Go.Lib in
theorem Tryz.strings_HasPrefix (s p:ByteArray) (w:World):
  Calls Tryz.prog 280 #[.string s,.string p] w fun e w'=>e=.returned (.bool (Lib.hasPrefix s.data.toList p.data.toList))/\w'=w:=Any.strings_HasPrefix Tryz.lays99 s p w
def Tryz.lays147_ren:Go.Shelf.Ren:=⟨fun | 147=>308 | 221=>390 | 268=>452 | 138=>453 | 143=>454 | 195=>537 | 197=>538 | 218=>539 | 219=>540 | 260=>592 | 217=>593 | 225=>594 | 224=>595 | 267=>596 | 266=>622 | 314=>623 | n=>n,fun | 9=>9 | 3=>3 | 31=>40 | 4=>4 | 0=>0 | 105=>716 | 21=>21 | 5=>5 | 46=>96 | 119=>783 | 139=>786 | 138=>785 | 146=>558 | 51=>95 | n=>n,fun | 1=>4 | 3=>8 | 4=>9 | n=>n⟩
theorem Tryz.lays147:Go.Proofs.Lays.n147 Tryz.prog Tryz.lays147_ren:={
 mixed:=by kernel_rfl
 f138:=Tryz.func453.trans (congrArg some (by kernel_rfl))
 f143:=Tryz.func454.trans (congrArg some (by kernel_rfl))
 f147:=Tryz.func308.trans (congrArg some (by kernel_rfl))
 f195:=Tryz.func537.trans (congrArg some (by kernel_rfl))
 f197:=Tryz.func538.trans (congrArg some (by kernel_rfl))
 f217:=Tryz.func593.trans (congrArg some (by kernel_rfl))
 f218:=Tryz.func539.trans (congrArg some (by kernel_rfl))
 f219:=Tryz.func540.trans (congrArg some (by kernel_rfl))
 f221:=Tryz.func390.trans (congrArg some (by kernel_rfl))
 f224:=Tryz.func595.trans (congrArg some (by kernel_rfl))
 f225:=Tryz.func594.trans (congrArg some (by kernel_rfl))
 f260:=Tryz.func592.trans (congrArg some (by kernel_rfl))
 f266:=Tryz.func622.trans (congrArg some (by kernel_rfl))
 f267:=Tryz.func596.trans (congrArg some (by kernel_rfl))
 f268:=Tryz.func452.trans (congrArg some (by kernel_rfl))
 f314:=Tryz.func623.trans (congrArg some (by kernel_rfl))
 t0:=Tryz.underlying0
 a0:=Tryz.isAgg0
 z0:=Tryz.sizeOf0
 v0:=Tryz.zeroValue0
 t3:=Tryz.underlying3
 a3:=Tryz.isAgg3
 z3:=Tryz.sizeOf3
 v3:=Tryz.zeroValue3
 t4:=Tryz.underlying4
 a4:=Tryz.isAgg4
 z4:=Tryz.sizeOf4
 v4:=Tryz.zeroValue4
 t5:=Tryz.underlying5
 a5:=Tryz.isAgg5
 z5:=Tryz.sizeOf5
 v5:=Tryz.zeroValue5
 t9:=Tryz.underlying9
 a9:=Tryz.isAgg9
 z9:=Tryz.sizeOf9
 v9:=Tryz.zeroValue9
 t21:=Tryz.underlying21
 a21:=Tryz.isAgg21
 z21:=Tryz.sizeOf21
 v21:=Tryz.zeroValue21
 t31:=Tryz.underlying40
 a31:=Tryz.isAgg40
 z31:=Tryz.sizeOf40
 v31:=Tryz.zeroValue40
 t46:=Tryz.underlying96
 a46:=Tryz.isAgg96
 z46:=Tryz.sizeOf96
 v46:=Tryz.zeroValue96
 t51:=Tryz.underlying95
 a51:=Tryz.isAgg95
 z51:=Tryz.sizeOf95
 v51:=Tryz.zeroValue95
 t105:=Tryz.underlying716
 a105:=Tryz.isAgg716
 z105:=Tryz.sizeOf716
 v105:=Tryz.zeroValue716
 t119:=Tryz.underlying783
 a119:=Tryz.isAgg783
 z119:=Tryz.sizeOf783
 t138:=Tryz.underlying785
 a138:=Tryz.isAgg785
 z138:=Tryz.sizeOf785
 v138:=Tryz.zeroValue785
 t139:=Tryz.underlying786
 a139:=Tryz.isAgg786
 z139:=Tryz.sizeOf786
 v139:=Tryz.zeroValue786
 t146:=Tryz.underlying558
 a146:=Tryz.isAgg558
 z146:=Tryz.sizeOf558
 v146:=Tryz.zeroValue558
 g1:=by kernel_rfl
 g3:=by kernel_rfl
 g4:=by kernel_rfl }
open Go.RowKit Go.Lib in
theorem Tryz.strings_SplitN (s sep:ByteArray) (n:Nat) (m:Int) (w:World) (hs:s.size < 4294967281) (hm:w.cell? ⟨4,0,none⟩=some (.int .i64 m)) (h1:1<=sep.size) (hn:1<=n) (hn63:n<=9223372036854775807):
  Calls Tryz.prog 308 #[.string s,.string sep,.int .i64 n] w fun e w'=>
   e=.returned (.slice (some ⟨w.heap.size,0,none⟩) (Lib.splitB sep 0 (min n (s.size+1) - 1) s).length (min n (s.size+1)))/\w'=w.alloc (.cells (Lib.cellsOf (Lib.splitB sep 0 (min n (s.size+1) - 1) s) (min n (s.size+1))) 9):=Any.strings_SplitN Tryz.lays147 (by kernel_rfl) s sep n m w hs hm h1 hn hn63
def Tryz.laysNm215_ren:Go.Shelf.Ren:=⟨fun | 15=>41 | n=>n,fun | 22=>31 | 3=>3 | 4=>4 | n=>n,fun | n=>n⟩
theorem Tryz.laysNm215:Go.Proofs.Lays2.n15 Tryz.prog Tryz.laysNm215_ren:={
 mixed:=by kernel_rfl
 f15:=Tryz.func41.trans (congrArg some (by kernel_rfl))
 t3:=Tryz.underlying3
 a3:=Tryz.isAgg3
 z3:=Tryz.sizeOf3
 v3:=Tryz.zeroValue3
 t4:=Tryz.underlying4
 a4:=Tryz.isAgg4
 z4:=Tryz.sizeOf4
 v4:=Tryz.zeroValue4
 t22:=Tryz.underlying31
 a22:=Tryz.isAgg31
 z22:=Tryz.sizeOf31
 v22:=Tryz.zeroValue31
 i3:=by kernel_rfl }
open Go.RowKit Go.Lib in
theorem Tryz.slices_Clone_int_nil (n c:Nat) (w:World):
  Calls Tryz.prog 41 #[.slice none n c] w fun e w'=>e=.returned (.slice none 0 0)/\w'=w:=Any.slices_Clone_int_nil Tryz.laysNm215 n c w
def Tryz.laysNm216_ren:Go.Shelf.Ren:=⟨fun | 16=>152 | n=>n,fun | 24=>40 | 9=>9 | 4=>4 | n=>n,fun | n=>n⟩
theorem Tryz.laysNm216:Go.Proofs.Lays2.n16 Tryz.prog Tryz.laysNm216_ren:={
 mixed:=by kernel_rfl
 f16:=Tryz.func152.trans (congrArg some (by kernel_rfl))
 t4:=Tryz.underlying4
 a4:=Tryz.isAgg4
 z4:=Tryz.sizeOf4
 v4:=Tryz.zeroValue4
 t9:=Tryz.underlying9
 a9:=Tryz.isAgg9
 z9:=Tryz.sizeOf9
 v9:=Tryz.zeroValue9
 t24:=Tryz.underlying40
 a24:=Tryz.isAgg40
 z24:=Tryz.sizeOf40
 v24:=Tryz.zeroValue40
 i9:=by kernel_rfl }
open Go.RowKit Go.Lib in
theorem Tryz.slices_Clone_string_nil (n c:Nat) (w:World):
  Calls Tryz.prog 152 #[.slice none n c] w fun e w'=>e=.returned (.slice none 0 0)/\w'=w:=Any.slices_Clone_string_nil Tryz.laysNm216 n c w
def Tryz.lays194_ren:Go.Shelf.Ren:=⟨fun | 194=>364 | n=>n,fun | 31=>40 | 9=>9 | 3=>3 | 4=>4 | 0=>0 | n=>n,fun | n=>n⟩
theorem Tryz.lays194:Go.Proofs.Lays.n194 Tryz.prog Tryz.lays194_ren:={
 mixed:=by kernel_rfl
 f194:=Tryz.func364.trans (congrArg some (by kernel_rfl))
 t0:=Tryz.underlying0
 a0:=Tryz.isAgg0
 z0:=Tryz.sizeOf0
 v0:=Tryz.zeroValue0
 t3:=Tryz.underlying3
 a3:=Tryz.isAgg3
 z3:=Tryz.sizeOf3
 v3:=Tryz.zeroValue3
 t4:=Tryz.underlying4
 a4:=Tryz.isAgg4
 z4:=Tryz.sizeOf4
 v4:=Tryz.zeroValue4
 t9:=Tryz.underlying9
 a9:=Tryz.isAgg9
 z9:=Tryz.sizeOf9
 v9:=Tryz.zeroValue9
 t31:=Tryz.underlying40
 a31:=Tryz.isAgg40
 z31:=Tryz.sizeOf40
 v31:=Tryz.zeroValue40 }
open Go.RowKit Go.Lib Go.Sort in
theorem Tryz.slices_Compact_string_empty (a:Option Addr) (cap:Nat) (w:World):
  Calls Tryz.prog 364 #[.slice a 0 cap] w fun e w'=>e=.returned (.slice a 0 cap)/\w'=w:=Any.slices_Compact_string_empty Tryz.lays194 a cap w
open Go.RowKit Go.Sort in
theorem Tryz.slices_Sort_string_none (p:Option Addr) (cap:Nat) (w:World):
  Calls Tryz.prog 304 #[.slice p 0 cap] w fun e w'=>e=.returned (.tuple #[])/\w'=w:=Any.slices_Sort_string_none Tryz.lays190 p cap w
open Go.RowKit Go.Sort in
theorem Tryz.slices_Sort_int_none (p:Option Addr) (cap:Nat) (w:World):
  Calls Tryz.prog 240 #[.slice p 0 cap] w fun e w'=>e=.returned (.tuple #[])/\w'=w:=Any.slices_Sort_int_none Tryz.lays189 p cap w
end Go.Proofs
