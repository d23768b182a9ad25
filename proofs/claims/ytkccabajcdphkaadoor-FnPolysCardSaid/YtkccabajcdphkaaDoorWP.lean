/- What functions of this program compute, over plain data. No condition. -/
import Derived.Test.YtkccabajcdphkaaDoorChecked
import Derived.Shelf.Strconv.Itoa3
import Derived.Shelf.Strings.OnBuilder
import Derived.Ground.NamesProg
set_option linter.all false
namespace Go.Proofs
open Go.Shelf Go.RowKit Go.Lib Go.Sort
def Tryd.layI_ren : Go.Shelf.Ren:=⟨fun | 171 => 89 | 243 => 136 | 246 => 159 | 283 => 173 | 284 => 174 | 285 => 175 | 286 => 176 | 129 => 186 | 317 => 185 | 318 => 187 | 319 => 188 | 320 => 189 | 337 => 192 | 338 => 193 | n => n,fun | 3 => 3 | 9 => 9 | 2 => 2 | 4 => 4 | 171 => 190 | 0 => 0 | 53 => 93 | 37 => 22 | 5 => 5 | 173 => 192 | 212 => 198 | 51 => 188 | 20 => 20 | 213 => 199 | 46 => 176 | 232 => 206 | 233 => 207 | n => n,fun | 17 => 2 | 18 => 5 | 19 => 6 | n => n⟩
theorem Tryd.layI : Go.Proofs.Lays.n171 Tryd.prog Tryd.layI_ren:={
 mixed:=by kernel_rfl
 f129:=Tryd.func186.trans (congrArg some (by kernel_rfl))
 f171:=Tryd.func89.trans (congrArg some (by kernel_rfl))
 f243:=Tryd.func136.trans (congrArg some (by kernel_rfl))
 f246:=Tryd.func159.trans (congrArg some (by kernel_rfl))
 f283:=Tryd.func173.trans (congrArg some (by kernel_rfl))
 f284:=Tryd.func174.trans (congrArg some (by kernel_rfl))
 f285:=Tryd.func175.trans (congrArg some (by kernel_rfl))
 f286:=Tryd.func176.trans (congrArg some (by kernel_rfl))
 f317:=Tryd.func185.trans (congrArg some (by kernel_rfl))
 f318:=Tryd.func187.trans (congrArg some (by kernel_rfl))
 f319:=Tryd.func188.trans (congrArg some (by kernel_rfl))
 f320:=Tryd.func189.trans (congrArg some (by kernel_rfl))
 f337:=Tryd.func192.trans (congrArg some (by kernel_rfl))
 f338:=Tryd.func193.trans (congrArg some (by kernel_rfl))
 t0:=Tryd.underlying0
 a0:=Tryd.isAgg0
 z0:=Tryd.sizeOf0
 v0:=Tryd.zeroValue0
 t2:=Tryd.underlying2
 a2:=Tryd.isAgg2
 z2:=Tryd.sizeOf2
 v2:=Tryd.zeroValue2
 t3:=Tryd.underlying3
 a3:=Tryd.isAgg3
 z3:=Tryd.sizeOf3
 v3:=Tryd.zeroValue3
 t4:=Tryd.underlying4
 a4:=Tryd.isAgg4
 z4:=Tryd.sizeOf4
 v4:=Tryd.zeroValue4
 t5:=Tryd.underlying5
 a5:=Tryd.isAgg5
 z5:=Tryd.sizeOf5
 v5:=Tryd.zeroValue5
 t9:=Tryd.underlying9
 a9:=Tryd.isAgg9
 z9:=Tryd.sizeOf9
 v9:=Tryd.zeroValue9
 t20:=Tryd.underlying20
 a20:=Tryd.isAgg20
 z20:=Tryd.sizeOf20
 v20:=Tryd.zeroValue20
 t37:=Tryd.underlying22
 a37:=Tryd.isAgg22
 z37:=Tryd.sizeOf22
 v37:=Tryd.zeroValue22
 t46:=Tryd.underlying176
 a46:=Tryd.isAgg176
 z46:=Tryd.sizeOf176
 v46:=Tryd.zeroValue176
 t51:=Tryd.underlying188
 a51:=Tryd.isAgg188
 z51:=Tryd.sizeOf188
 v51:=Tryd.zeroValue188
 t53:=Tryd.underlying93
 a53:=Tryd.isAgg93
 z53:=Tryd.sizeOf93
 v53:=Tryd.zeroValue93
 t171:=Tryd.underlying190
 a171:=Tryd.isAgg190
 z171:=Tryd.sizeOf190
 v171:=Tryd.zeroValue190
 t173:=Tryd.underlying192
 a173:=Tryd.isAgg192
 z173:=Tryd.sizeOf192
 v173:=Tryd.zeroValue192
 t212:=Tryd.underlying198
 a212:=Tryd.isAgg198
 z212:=Tryd.sizeOf198
 v212:=Tryd.zeroValue198
 t213:=Tryd.underlying199
 a213:=Tryd.isAgg199
 z213:=Tryd.sizeOf199
 t232:=Tryd.underlying206
 a232:=Tryd.isAgg206
 z232:=Tryd.sizeOf206
 v232:=Tryd.zeroValue206
 t233:=Tryd.underlying207
 a233:=Tryd.isAgg207
 z233:=Tryd.sizeOf207
 v233:=Tryd.zeroValue207
 g17:=by kernel_rfl
 g18:=by kernel_rfl
 g19:=by kernel_rfl }
def Tryd.layJ_ren : Go.Shelf.Ren:=⟨fun | 156 => 90 | 165 => 137 | 166 => 138 | 169 => 139 | 240 => 160 | 241 => 161 | 276 => 177 | 277 => 178 | n => n,fun | 31 => 64 | 9 => 9 | 3 => 3 | 4 => 4 | 0 => 0 | 20 => 20 | 72 => 153 | 76 => 157 | 70 => 151 | 37 => 22 | 75 => 156 | 127 => 178 | 164 => 194 | 5 => 5 | 80 => 112 | n => n,fun | n => n⟩
theorem Tryd.layJ : Go.Proofs.Lays.n156 Tryd.prog Tryd.layJ_ren:={
 mixed:=by kernel_rfl
 f156:=Tryd.func90.trans (congrArg some (by kernel_rfl))
 f165:=Tryd.func137.trans (congrArg some (by kernel_rfl))
 f166:=Tryd.func138.trans (congrArg some (by kernel_rfl))
 f169:=Tryd.func139.trans (congrArg some (by kernel_rfl))
 f240:=Tryd.func160.trans (congrArg some (by kernel_rfl))
 f241:=Tryd.func161.trans (congrArg some (by kernel_rfl))
 f276:=Tryd.func177.trans (congrArg some (by kernel_rfl))
 f277:=Tryd.func178.trans (congrArg some (by kernel_rfl))
 t0:=Tryd.underlying0
 a0:=Tryd.isAgg0
 z0:=Tryd.sizeOf0
 v0:=Tryd.zeroValue0
 t3:=Tryd.underlying3
 a3:=Tryd.isAgg3
 z3:=Tryd.sizeOf3
 v3:=Tryd.zeroValue3
 t4:=Tryd.underlying4
 a4:=Tryd.isAgg4
 z4:=Tryd.sizeOf4
 v4:=Tryd.zeroValue4
 t9:=Tryd.underlying9
 a9:=Tryd.isAgg9
 z9:=Tryd.sizeOf9
 v9:=Tryd.zeroValue9
 t20:=Tryd.underlying20
 a20:=Tryd.isAgg20
 z20:=Tryd.sizeOf20
 v20:=Tryd.zeroValue20
 t31:=Tryd.underlying64
 a31:=Tryd.isAgg64
 z31:=Tryd.sizeOf64
 v31:=Tryd.zeroValue64
 t37:=Tryd.underlying22
 a37:=Tryd.isAgg22
 z37:=Tryd.sizeOf22
 v37:=Tryd.zeroValue22
 t70:=Tryd.underlying151
 a70:=Tryd.isAgg151
 z70:=Tryd.sizeOf151
 v70:=Tryd.zeroValue151
 t72:=Tryd.underlying153
 a72:=Tryd.isAgg153
 z72:=Tryd.sizeOf153
 v72:=Tryd.zeroValue153
 t75:=Tryd.underlying156
 a75:=Tryd.isAgg156
 z75:=Tryd.sizeOf156
 v75:=Tryd.zeroValue156
 t76:=Tryd.underlying157
 a76:=Tryd.isAgg157
 z76:=Tryd.sizeOf157
 v76:=Tryd.zeroValue157
 t127:=Tryd.underlying178
 a127:=Tryd.isAgg178
 z127:=Tryd.sizeOf178
 v127:=Tryd.zeroValue178
 t164:=Tryd.underlying194
 a164:=Tryd.isAgg194
 z164:=Tryd.sizeOf194
 v164:=Tryd.zeroValue194 }
theorem Tryd.extraJ : Builder.Extra Tryd.prog Tryd.layJ_ren where
 sizeBuilder:=by kernel_rfl
 liesBuilder:=by kernel_rfl
 t5:=Tryd.underlying5
 a5:=Tryd.isAgg5
 z5:=Tryd.sizeOf5
 v5:=Tryd.zeroValue5
 infoByte:=by kernel_rfl
 cellsByte:=by kernel_rfl
 sizeByte:=by kernel_rfl
 neB5:=by decide
theorem Tryd.itoa_w (n : Nat) (hn : n < 100) (w : World) : Calls Tryd.prog 89 #[.int .i64 n] w fun e w' => e=.returned (.string ⟨(Lib.decDigits n).toArray⟩)∧w'=w :=
 Any.strconv_Itoa_small Tryd.layI n hn w
theorem Tryd.join_w (bk o c : Nat) (xs : List ByteArray) (sep : ByteArray) (w : World)
 (hcells : ∀ (j : Nat) x,xs[j]? = some x->w.cell? ⟨bk,o + j,none⟩=some (.string x))
 (hbk : bk < w.heap.size) (hN : xs.length<=140737488355328) (hcap : xs.length<=c)
 (hlen : (Lib.join (xs.map (·.data.toList)) sep.data.toList).length<=140737488355328) :
 Calls Tryd.prog 90 #[.slice (some ⟨bk,o,none⟩) xs.length c,.string sep] w fun e w' => e=.returned (.string ⟨(Lib.join (xs.map (·.data.toList)) sep.data.toList).toArray⟩)∧Below w.heap.size w w' :=
 Any.strings_Join Tryd.layJ Tryd.extraJ bk o c xs sep w hcells hbk hN hcap hlen
theorem Tryd.join0_w (a : Option Addr) (c : Nat) (sep : ByteArray) (w : World) : Calls Tryd.prog 90 #[.slice a 0 c,.string sep] w fun e w' => e=.returned (.string ⟨#[]⟩)∧w'=w :=
 Any.strings_Join_none Tryd.layJ Tryd.extraJ a c sep w
end Go.Proofs
