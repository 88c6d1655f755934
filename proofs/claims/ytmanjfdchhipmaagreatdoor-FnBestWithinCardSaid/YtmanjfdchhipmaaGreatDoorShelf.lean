-- by wip/shake.py
import Derived.Ground.NamesProg
import Derived.Shelf.Strings.SlTrimAscii
import Derived.Shelf.Small.Strs
import Derived.Test.YtmanjfdchhipmaaGreatDoorProg
namespace Go.Proofs
open Go.Shelf
def Tryz.lays160_ren : Go.Shelf.Ren := ⟨fun | 160 => 106 | 232 => 142 | 231 => 141 | 227 => 143 | 234 => 145 | 233 => 144 | 236 => 147 | 235 => 146 | 228 => 176 | 271 => 179 | 151 => 178 | 197 => 177 | 120 => 200 | 152 => 199 | 260 => 198 | 137 => 215 | 119 => 216 | 224 => 217 | 225 => 218 | 217 => 223 | 266 => 225 | n => n, fun | 9 => 9 | 4 => 4 | 3 => 3 | 5 => 5 | 117 => 126 | 116 => 125 | 0 => 0 | 124 => 129 | 21 => 21 | 105 => 157 | 46 => 116 | 119 => 185 | 139 => 188 | 138 => 187 | n => n, fun | 3 => 1 | 4 => 2 | n => n⟩
theorem Tryz.lays160 : Go.Proofs.Lays.n160 Tryz.prog Tryz.lays160_ren := {
 mixed := by kernel_rfl
 f119 := Tryz.func216.trans (congrArg some (by kernel_rfl))
 f120 := Tryz.func200.trans (congrArg some (by kernel_rfl))
 f137 := Tryz.func215.trans (congrArg some (by kernel_rfl))
 f151 := Tryz.func178.trans (congrArg some (by kernel_rfl))
 f152 := Tryz.func199.trans (congrArg some (by kernel_rfl))
 f160 := Tryz.func106.trans (congrArg some (by kernel_rfl))
 f197 := Tryz.func177.trans (congrArg some (by kernel_rfl))
 f217 := Tryz.func223.trans (congrArg some (by kernel_rfl))
 f224 := Tryz.func217.trans (congrArg some (by kernel_rfl))
 f225 := Tryz.func218.trans (congrArg some (by kernel_rfl))
 f227 := Tryz.func143.trans (congrArg some (by kernel_rfl))
 f228 := Tryz.func176.trans (congrArg some (by kernel_rfl))
 f231 := Tryz.func141.trans (congrArg some (by kernel_rfl))
 f232 := Tryz.func142.trans (congrArg some (by kernel_rfl))
 f233 := Tryz.func144.trans (congrArg some (by kernel_rfl))
 f234 := Tryz.func145.trans (congrArg some (by kernel_rfl))
 f235 := Tryz.func146.trans (congrArg some (by kernel_rfl))
 f236 := Tryz.func147.trans (congrArg some (by kernel_rfl))
 f260 := Tryz.func198.trans (congrArg some (by kernel_rfl))
 f266 := Tryz.func225.trans (congrArg some (by kernel_rfl))
 f271 := Tryz.func179.trans (congrArg some (by kernel_rfl))
 t0 := Tryz.underlying0
 a0 := Tryz.isAgg0
 z0 := Tryz.sizeOf0
 v0 := Tryz.zeroValue0
 t3 := Tryz.underlying3
 a3 := Tryz.isAgg3
 z3 := Tryz.sizeOf3
 v3 := Tryz.zeroValue3
 t4 := Tryz.underlying4
 a4 := Tryz.isAgg4
 z4 := Tryz.sizeOf4
 v4 := Tryz.zeroValue4
 t5 := Tryz.underlying5
 a5 := Tryz.isAgg5
 z5 := Tryz.sizeOf5
 v5 := Tryz.zeroValue5
 t9 := Tryz.underlying9
 a9 := Tryz.isAgg9
 z9 := Tryz.sizeOf9
 v9 := Tryz.zeroValue9
 t21 := Tryz.underlying21
 a21 := Tryz.isAgg21
 z21 := Tryz.sizeOf21
 v21 := Tryz.zeroValue21
 t46 := Tryz.underlying116
 a46 := Tryz.isAgg116
 z46 := Tryz.sizeOf116
 v46 := Tryz.zeroValue116
 t105 := Tryz.underlying157
 a105 := Tryz.isAgg157
 z105 := Tryz.sizeOf157
 v105 := Tryz.zeroValue157
 t116 := Tryz.underlying125
 a116 := Tryz.isAgg125
 z116 := Tryz.sizeOf125
 t117 := Tryz.underlying126
 a117 := Tryz.isAgg126
 z117 := Tryz.sizeOf126
 v117 := Tryz.zeroValue126
 t119 := Tryz.underlying185
 a119 := Tryz.isAgg185
 z119 := Tryz.sizeOf185
 t124 := Tryz.underlying129
 a124 := Tryz.isAgg129
 z124 := Tryz.sizeOf129
 v124 := Tryz.zeroValue129
 t138 := Tryz.underlying187
 a138 := Tryz.isAgg187
 z138 := Tryz.sizeOf187
 v138 := Tryz.zeroValue187
 t139 := Tryz.underlying188
 a139 := Tryz.isAgg188
 z139 := Tryz.sizeOf188
 v139 := Tryz.zeroValue188
 g3 := by kernel_rfl
 g4 := by kernel_rfl }
def Tryz.lays106_ren : Go.Shelf.Ren := ⟨fun | 106 => 152 | 213 => 186 | 265 => 203 | n => n, fun | 9 => 9 | 3 => 3 | n => n, fun | n => n⟩
theorem Tryz.lays106 : Go.Proofs.Lays.n106 Tryz.prog Tryz.lays106_ren := {
 mixed := by kernel_rfl
 f106 := Tryz.func152.trans (congrArg some (by kernel_rfl))
 f213 := Tryz.func186.trans (congrArg some (by kernel_rfl))
 f265 := Tryz.func203.trans (congrArg some (by kernel_rfl))
 t3 := Tryz.underlying3
 a3 := Tryz.isAgg3
 z3 := Tryz.sizeOf3
 v3 := Tryz.zeroValue3
 t9 := Tryz.underlying9
 a9 := Tryz.isAgg9
 z9 := Tryz.sizeOf9
 v9 := Tryz.zeroValue9 }
end Go.Proofs
