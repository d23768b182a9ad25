/- What functions of this program compute, over plain data. No condition. -/
import Derived.Test.YtkccabajcdphkaaDoorChecked
import Derived.Shelf.Strings.Search3
import Derived.Ground.NamesProg
set_option linter.all false
namespace Go.Proofs
open Go.Shelf Go.RowKit Go.Lib
def Tryd.layN_ren : Go.Shelf.Ren:=⟨fun | 144 => 167 | 143 => 144 | 219 => 166 | 217 => 179 | 225 => 180 | 224 => 181 | 267 => 182 | 266 => 190 | 314 => 191 | n => n,fun | 9 => 9 | 4 => 4 | 3 => 3 | 5 => 5 | 46 => 176 | 146 => 200 | 51 => 188 | n => n,fun | 1 => 1 | n => n⟩
theorem Tryd.layN : Go.Proofs.Lays.n144 Tryd.prog Tryd.layN_ren:={
 mixed:=by kernel_rfl
 f143:=Tryd.func144.trans (congrArg some (by kernel_rfl))
 f144:=Tryd.func167.trans (congrArg some (by kernel_rfl))
 f217:=Tryd.func179.trans (congrArg some (by kernel_rfl))
 f219:=Tryd.func166.trans (congrArg some (by kernel_rfl))
 f224:=Tryd.func181.trans (congrArg some (by kernel_rfl))
 f225:=Tryd.func180.trans (congrArg some (by kernel_rfl))
 f266:=Tryd.func190.trans (congrArg some (by kernel_rfl))
 f267:=Tryd.func182.trans (congrArg some (by kernel_rfl))
 f314:=Tryd.func191.trans (congrArg some (by kernel_rfl))
 t3:=Tryd.underlying3
 a3:=Tryd.isAgg3
 z3:=Tryd.sizeOf3
 v3:=Tryd.zeroValue3
 t4:=Tryd.underlying4
 a4:=Tryd.isAgg4
 z4:=Tryd.sizeOf4
 v4:=Tryd.zeroValue4
 t5:=Tryd.underlying5
 a5:=Tryd.isAgg5
 z5:=Tryd.sizeOf5
 v5:=Tryd.zeroValue5
 t9:=Tryd.underlying9
 a9:=Tryd.isAgg9
 z9:=Tryd.sizeOf9
 v9:=Tryd.zeroValue9
 t46:=Tryd.underlying176
 a46:=Tryd.isAgg176
 z46:=Tryd.sizeOf176
 v46:=Tryd.zeroValue176
 t51:=Tryd.underlying188
 a51:=Tryd.isAgg188
 z51:=Tryd.sizeOf188
 v51:=Tryd.zeroValue188
 t146:=Tryd.underlying200
 a146:=Tryd.isAgg200
 z146:=Tryd.sizeOf200
 v146:=Tryd.zeroValue200
 g1:=by kernel_rfl }
theorem Tryd.has_w (s : ByteArray) (c : UInt8) (w : World) : Calls Tryd.prog 167 #[.string s,.string ⟨#[c]⟩] w fun e w' => e=.returned (.bool (decide (0<=Lib.indexByte s.data.toList c)))∧w'=w :=
 Any.strings_Contains_one Tryd.layN s c w
end Go.Proofs
