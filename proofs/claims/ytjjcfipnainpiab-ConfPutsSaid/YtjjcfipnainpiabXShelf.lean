/- The shelf's tables of numbers at this dump, by the names that both dumps print. -/
import Derived.Shelf.Strings.Builder1
import Derived.Shelf.Strings.BuilderK
import Derived.Shelf.Strings.Repeat
import Derived.Shelf.Strings.Prefix
import Derived.Shelf.Small.Wraps
import Derived.Test.YtjjcfipnainpiabProg
namespace Go.Proofs.Ytjjcfipnainpiab.X
open Go.Shelf Go.Proofs
def ren : Go.Shelf.Ren := ⟨fun | 105 => 79 | 107 => 74 | 108 => 75 | 109 => 103 | 110 => 83 | 111 => 70 | 125 => 96 | 128 => 118 | 129 => 119 | 165 => 100 | 166 => 89 | 167 => 106 | 169 => 91 | 170 => 101 | 189 => 72 | 206 => 124 | 212 => 98 | 215 => 134 | 216 => 115 | 240 => 104 | 241 => 125 | 257 => 95 | 263 => 122 | 264 => 123 | 276 => 126 | 277 => 136 | 294 => 109 | 295 => 110 | 296 => 111 | 297 => 112 | 298 => 113 | 299 => 114 | 300 => 116 | 301 => 117 | 328 => 129 | 329 => 130 | 330 => 131 | 331 => 132 | 332 => 133 | 343 => 137 | 347 => 138 | 348 => 139 | 349 => 140 | 350 => 141 | 351 => 142 | 352 => 143 | 353 => 144 | 354 => 145 | 355 => 146 | 356 => 147 | 357 => 148 | 358 => 149 | 359 => 150 | 360 => 151 | 361 => 152 | 362 => 154 | 366 => 155 | n => n, fun | 22 => 144 | 26 => 112 | 28 => 29 | 29 => 97 | 30 => 106 | 31 => 73 | 32 => 147 | 33 => 119 | 34 => 60 | 35 => 104 | 37 => 108 | 46 => 95 | 47 => 135 | 51 => 159 | 52 => 158 | 53 => 131 | 54 => 148 | 70 => 123 | 71 => 124 | 72 => 125 | 73 => 145 | 74 => 126 | 75 => 127 | 76 => 128 | 77 => 129 | 78 => 149 | 80 => 107 | 81 => 55 | 83 => 168 | 109 => 142 | 110 => 143 | 111 => 51 | 112 => 38 | 114 => 46 | 127 => 150 | 131 => 49 | 146 => 162 | 147 => 163 | 148 => 164 | 149 => 165 | 164 => 166 | 165 => 167 | 166 => 177 | 181 => 152 | 182 => 153 | 183 => 154 | 184 => 155 | 185 => 96 | 186 => 156 | 187 => 157 | 218 => 170 | 219 => 171 | 220 => 172 | 221 => 173 | 222 => 174 | 223 => 175 | 228 => 178 | 229 => 27 | 230 => 179 | 238 => 180 | 239 => 181 | 240 => 182 | 241 => 183 | 242 => 184 | 243 => 185 | 244 => 186 | 245 => 187 | 246 => 188 | 247 => 189 | 248 => 190 | 249 => 191 | n => n, fun n => n⟩
theorem lays_n169 : Go.Proofs.Lays.n169 Try.prog ren := {
  mixed := by kernel_rfl
  f169 := Try.func91.trans (congrArg some (by kernel_rfl))
  t0 := Try.underlying0
  a0 := Try.isAgg0
  z0 := Try.sizeOf0
  v0 := Try.zeroValue0
  t3 := Try.underlying3
  a3 := Try.isAgg3
  z3 := Try.sizeOf3
  v3 := Try.zeroValue3
  t9 := Try.underlying9
  a9 := Try.isAgg9
  z9 := Try.sizeOf9
  v9 := Try.zeroValue9
  t37 := Try.underlying108
  a37 := Try.isAgg108
  z37 := Try.sizeOf108
  v37 := Try.zeroValue108
  t70 := Try.underlying123
  a70 := Try.isAgg123
  z70 := Try.sizeOf123
  v70 := Try.zeroValue123
  t72 := Try.underlying125
  a72 := Try.isAgg125
  z72 := Try.sizeOf125
  v72 := Try.zeroValue125
  t127 := Try.underlying150
  a127 := Try.isAgg150
  z127 := Try.sizeOf150
  v127 := Try.zeroValue150 }
theorem lays_n240 : Go.Proofs.Lays.n240 Try.prog ren := {
  mixed := by kernel_rfl
  f240 := Try.func104.trans (congrArg some (by kernel_rfl))
  f276 := Try.func126.trans (congrArg some (by kernel_rfl))
  t0 := Try.underlying0
  a0 := Try.isAgg0
  z0 := Try.sizeOf0
  v0 := Try.zeroValue0
  t4 := Try.underlying4
  a4 := Try.isAgg4
  z4 := Try.sizeOf4
  v4 := Try.zeroValue4
  t9 := Try.underlying9
  a9 := Try.isAgg9
  z9 := Try.sizeOf9
  v9 := Try.zeroValue9
  t20 := Try.underlying20
  a20 := Try.isAgg20
  z20 := Try.sizeOf20
  v20 := Try.zeroValue20
  t70 := Try.underlying123
  a70 := Try.isAgg123
  z70 := Try.sizeOf123
  v70 := Try.zeroValue123
  t72 := Try.underlying125
  a72 := Try.isAgg125
  z72 := Try.sizeOf125
  v72 := Try.zeroValue125
  t164 := Try.underlying166
  a164 := Try.isAgg166
  z164 := Try.sizeOf166
  v164 := Try.zeroValue166 }
theorem extra : Builder.Extra Try.prog ren := {
  sizeBuilder := by kernel_rfl
  liesBuilder := by kernel_rfl
  t5 := Try.underlying5
  a5 := Try.isAgg5
  z5 := Try.sizeOf5
  v5 := Try.zeroValue5
  infoByte := by kernel_rfl
  cellsByte := by kernel_rfl
  sizeByte := by kernel_rfl
  neB5 := by decide }
end Go.Proofs.Ytjjcfipnainpiab.X
