/- The shelf's tables of numbers at this dump, by the names that both dumps print. -/
import Derived.Shelf.Strings.Builder1
import Derived.Shelf.Strings.BuilderK
import Derived.Shelf.Strings.Repeat
import Derived.Shelf.Strings.Prefix
import Derived.Shelf.Small.Wraps
import Derived.Test.YtjjcfipnainpiaaProg
namespace Go.Proofs.Ytjjcfipnainpiaa.X
open Go.Shelf Go.Proofs
def ren : Go.Shelf.Ren := ⟨fun | 99 => 73 | 105 => 54 | 107 => 62 | 108 => 78 | 122 => 68 | 156 => 38 | 165 => 56 | 166 => 57 | 169 => 58 | 170 => 74 | 206 => 85 | 212 => 72 | 215 => 81 | 240 => 75 | 241 => 76 | 263 => 83 | 264 => 84 | 276 => 86 | 277 => 87 | 347 => 92 | 348 => 93 | 349 => 94 | 350 => 95 | 351 => 96 | 352 => 97 | 353 => 98 | 354 => 99 | 355 => 100 | 356 => 101 | 357 => 102 | 358 => 103 | 359 => 104 | 360 => 105 | 361 => 106 | 362 => 107 | 366 => 108 | n => n, fun | 22 => 131 | 26 => 55 | 28 => 59 | 29 => 65 | 30 => 134 | 31 => 35 | 34 => 104 | 37 => 103 | 43 => 74 | 46 => 28 | 51 => 139 | 53 => 142 | 67 => 82 | 70 => 112 | 71 => 113 | 72 => 114 | 73 => 115 | 74 => 116 | 75 => 117 | 76 => 118 | 77 => 119 | 80 => 45 | 81 => 132 | 109 => 129 | 110 => 130 | 111 => 128 | 127 => 133 | 131 => 97 | 146 => 140 | 147 => 141 | 148 => 143 | 149 => 144 | 164 => 145 | 165 => 146 | 166 => 147 | 238 => 150 | 239 => 151 | 240 => 152 | 241 => 153 | 242 => 154 | 243 => 155 | 244 => 156 | 245 => 157 | 246 => 158 | 247 => 159 | 248 => 160 | 249 => 161 | n => n, fun n => n⟩
theorem lays_n105 : Go.Proofs.Lays.n105 Try.prog ren := {
  mixed := by kernel_rfl
  f99 := Try.func73.trans (congrArg some (by kernel_rfl))
  f105 := Try.func54.trans (congrArg some (by kernel_rfl))
  f165 := Try.func56.trans (congrArg some (by kernel_rfl))
  f166 := Try.func57.trans (congrArg some (by kernel_rfl))
  f169 := Try.func58.trans (congrArg some (by kernel_rfl))
  f170 := Try.func74.trans (congrArg some (by kernel_rfl))
  f206 := Try.func85.trans (congrArg some (by kernel_rfl))
  f212 := Try.func72.trans (congrArg some (by kernel_rfl))
  f240 := Try.func75.trans (congrArg some (by kernel_rfl))
  f241 := Try.func76.trans (congrArg some (by kernel_rfl))
  f263 := Try.func83.trans (congrArg some (by kernel_rfl))
  f264 := Try.func84.trans (congrArg some (by kernel_rfl))
  f276 := Try.func86.trans (congrArg some (by kernel_rfl))
  f277 := Try.func87.trans (congrArg some (by kernel_rfl))
  t0 := Try.underlying0
  a0 := Try.isAgg0
  z0 := Try.sizeOf0
  v0 := Try.zeroValue0
  t3 := Try.underlying3
  a3 := Try.isAgg3
  z3 := Try.sizeOf3
  v3 := Try.zeroValue3
  t4 := Try.underlying4
  a4 := Try.isAgg4
  z4 := Try.sizeOf4
  v4 := Try.zeroValue4
  t5 := Try.underlying5
  a5 := Try.isAgg5
  z5 := Try.sizeOf5
  v5 := Try.zeroValue5
  t9 := Try.underlying9
  a9 := Try.isAgg9
  z9 := Try.sizeOf9
  v9 := Try.zeroValue9
  t20 := Try.underlying20
  a20 := Try.isAgg20
  z20 := Try.sizeOf20
  v20 := Try.zeroValue20
  t37 := Try.underlying103
  a37 := Try.isAgg103
  z37 := Try.sizeOf103
  v37 := Try.zeroValue103
  t46 := Try.underlying28
  a46 := Try.isAgg28
  z46 := Try.sizeOf28
  v46 := Try.zeroValue28
  t51 := Try.underlying139
  a51 := Try.isAgg139
  z51 := Try.sizeOf139
  v51 := Try.zeroValue139
  t53 := Try.underlying142
  a53 := Try.isAgg142
  z53 := Try.sizeOf142
  v53 := Try.zeroValue142
  t70 := Try.underlying112
  a70 := Try.isAgg112
  z70 := Try.sizeOf112
  v70 := Try.zeroValue112
  t72 := Try.underlying114
  a72 := Try.isAgg114
  z72 := Try.sizeOf114
  v72 := Try.zeroValue114
  t75 := Try.underlying117
  a75 := Try.isAgg117
  z75 := Try.sizeOf117
  v75 := Try.zeroValue117
  t76 := Try.underlying118
  a76 := Try.isAgg118
  z76 := Try.sizeOf118
  v76 := Try.zeroValue118
  t109 := Try.underlying129
  a109 := Try.isAgg129
  z109 := Try.sizeOf129
  v109 := Try.zeroValue129
  t127 := Try.underlying133
  a127 := Try.isAgg133
  z127 := Try.sizeOf133
  v127 := Try.zeroValue133
  t146 := Try.underlying140
  a146 := Try.isAgg140
  z146 := Try.sizeOf140
  v146 := Try.zeroValue140
  t148 := Try.underlying143
  a148 := Try.isAgg143
  z148 := Try.sizeOf143
  v148 := Try.zeroValue143
  t164 := Try.underlying145
  a164 := Try.isAgg145
  z164 := Try.sizeOf145
  v164 := Try.zeroValue145 }
theorem extra : Builder.Extra Try.prog ren := {
  sizeBuilder := by kernel_rfl
  liesBuilder := by kernel_rfl
  t5 := Try.underlying5
  a5 := Try.isAgg5
  z5 := Try.sizeOf5
  v5 := Try.zeroValue5
  infoByte := by kernel_rfl
  cellsByte := by kernel_rfl
  sizeByte := by kernel_rfl
  neB5 := by decide }
end Go.Proofs.Ytjjcfipnainpiaa.X
