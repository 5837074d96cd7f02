/- The facts on the types of this translation, each by the. -/
import Derived.Test.YtceodgbmninaoaaGreatDoorSvs
import Derived.Test.YtceodgbmninaoaaGreatDoorProg
import Derived.KernelRfl
set_option linter.all false
namespace Go.Proofs
open Go Go.Sv Tryz
abbrev MI:Value:=.slice none 0 0
abbrev MJ:Value:=.bool false
instance:bi prog:=⟨V⟩
instance:ak prog 3:=yu V
instance:aR prog 3 .i64:=⟨V⟩
instance:bW prog 3:=⟨V⟩
instance:ai prog 3 1:=yn V
instance:al prog 3 [.int .i64 0]:=yx (b:=8) V Z
instance:av prog 3 [.int .i64 0] 8:=wx V Z B
instance:ak prog 4:=yu V
theorem aP:prog.underlying 4=some .bool:=V
instance:ai prog 4 1:=yn V
instance:al prog 4 [MJ]:=yx (b:=1) V Z
instance:av prog 4 [MJ] 1:=wx V Z B
instance:ak prog 5:=yu V
instance:aR prog 5 .u8:=⟨V⟩
instance:bW prog 5:=⟨V⟩
instance:al prog 5 [.int .u8 0]:=yx (b:=1) V Z
instance:ak prog 9:=yu V
instance:aV prog 9:=⟨V⟩
instance:ai prog 9 1:=yn V
instance:al prog 9 [.string ⟨#[]⟩]:=yx (b:=16) V Z
instance:av prog 9 [.string ⟨#[]⟩] 16:=wx V Z B
instance:bW prog 21:=⟨V⟩
instance:ak prog 25:=yu V
instance:am prog 25 9 1:=vh V V
instance:ai prog 25 1:=yn V
instance:al prog 25 [MI]:=yx (b:=24) V Z
instance:ak prog 26:=yu V
instance:ai prog 26 1:=yn V
instance:al prog 26 [.int .i64 0]:=yx (b:=8) V Z
instance:ak prog 29:=yu V
instance:am prog 29 48 6:=vh V V
instance:ai prog 29 1:=yn V
instance:al prog 29 [MI]:=yx (b:=24) V Z
instance:av prog 29 [MI] 24:=wx V Z B
instance:ak prog 30:=yu V
instance:am prog 30 29 1:=vh V V
instance:ai prog 30 1:=yn V
instance:ak prog 31:=yu V
instance:am prog 31 50 12:=vh V V
instance:ai prog 31 1:=yn V
instance:az prog 33 3:=xY V
instance:au prog 33 [MI,MI,MI] [(0,1),(1,1),(2,1)]:=⟨V,Z⟩
instance:aj prog 33 0 0:=zW V
instance:aj prog 33 1 1:=zW V
instance:aj prog 33 2 2:=zW V
instance:ai prog 33 3:=yn V
instance:al prog 33 [MI,MI,MI]:=yx (b:=72) V Z
instance:ak prog 42:=yu V
instance:am prog 42 125 1:=vh V V
instance:ai prog 42 1:=yn V
instance:al prog 42 [MI]:=yx (b:=24) V Z
instance:az prog 44 2:=xY V
instance:au prog 44 [MJ,MI] [(0,1),(1,1)]:=⟨V,Z⟩
instance:aj prog 44 0 0:=zW V
instance:aj prog 44 1 1:=zW V
instance:ai prog 44 2:=yn V
instance:al prog 44 [MJ,MI]:=yx (b:=32) V Z
instance:az prog 46 3:=xY V
instance:au prog 46 [MJ,MI,MI] [(0,2),(2,1)]:=⟨V,Z⟩
instance:aj prog 46 0 0:=zW V
instance:aj prog 46 1 2:=zW V
instance:ai prog 46 3:=yn V
instance:al prog 46 [MJ,MI,MI]:=yx (b:=56) V Z
instance:av prog 46 [MJ,MI,MI] 56:=wx V Z B
instance:az prog 48 6:=xY V
instance:au prog 48 [MJ,MI,MI,MJ,MI,MI] [(0,3),(3,3)]:=⟨V,Z⟩
instance:aj prog 48 0 0:=zW V
instance:aj prog 48 1 3:=zW V
instance:ai prog 48 6:=yn V
instance:al prog 48 [MJ,MI,MI,MJ,MI,MI]:=yx (b:=112) V Z
instance:av prog 48 [MJ,MI,MI,MJ,MI,MI] 112:=wx V Z B
instance:az prog 50 12:=xY V
instance:au prog 50 [MJ,MI,MI,MJ,MI,MI,MJ,MI,MI,MJ,MI,MI] [(0,6),(6,6)]:=⟨V,Z⟩
instance:aj prog 50 0 0:=zW V
instance:aj prog 50 1 6:=zW V
instance:ai prog 50 12:=yn V
instance:al prog 50 [MJ,MI,MI,MJ,MI,MI,MJ,MI,MI,MJ,MI,MI]:=yx (b:=224) V Z
instance:av prog 50 [MJ,MI,MI,MJ,MI,MI,MJ,MI,MI,MJ,MI,MI] 224:=wx V Z B
instance:am prog 61 65 1:=vh V V
instance:ak prog 65:=yu V
instance:ai prog 65 1:=yn V
instance:al prog 65 [.int .i8 0]:=yx (b:=1) V Z
instance:av prog 65 [.int .i8 0] 1:=wx V Z B
instance:az prog 68 5:=xY V
instance:au prog 68 [.int .i8 0,MI,MJ,MI,MI] [(0,1),(1,1),(2,3)]:=⟨V,Z⟩
instance:aj prog 68 0 0:=zW V
instance:aj prog 68 1 1:=zW V
instance:aj prog 68 2 2:=zW V
instance:ai prog 68 5:=yn V
instance:al prog 68 [.int .i8 0,MI,MJ,MI,MI]:=yx (b:=88) V Z
instance:av prog 68 [.int .i8 0,MI,MJ,MI,MI] 88:=wx V Z B
instance:ak prog 69:=yu V
instance:am prog 69 68 5:=vh V V
instance:ai prog 69 1:=yn V
instance:ak prog 77:=yu V
instance:am prog 77 46 3:=vh V V
instance:ai prog 77 1:=yn V
instance:al prog 77 [MI]:=yx (b:=24) V Z
instance:av prog 77 [MI] 24:=wx V Z B
instance:az prog 83 3:=xY V
instance:au prog 83 [.string ⟨#[]⟩,.string ⟨#[]⟩,.string ⟨#[]⟩] [(0,1),(1,1),(2,1)]:=⟨V,Z⟩
instance:ai prog 83 3:=yn V
instance:al prog 83 [.string ⟨#[]⟩,.string ⟨#[]⟩,.string ⟨#[]⟩]:=yx (b:=48) V Z
instance:ak prog 91:=yu V
instance:am prog 91 5 1:=vh V V
instance:ai prog 91 1:=yn V
instance:aj prog 93 1 1:=zW V
instance:al prog 93 [.pointer none,MI]:=yx (b:=32) V Z
instance:ak prog 99:=yu V
instance:am prog 99 180 18:=vh V V
instance:ai prog 99 1:=yn V
instance:al prog 99 [MI]:=yx (b:=24) V Z
instance:az prog 101 12:=xY V
instance:au prog 101 [MJ,MI,MI,MJ,MI,MI,MJ,MI,MI,MJ,MI,MI] [(0,6),(6,6)]:=⟨V,Z⟩
instance:aj prog 101 0 0:=zW V
instance:aj prog 101 1 6:=zW V
instance:ai prog 101 12:=yn V
instance:al prog 101 [MJ,MI,MI,MJ,MI,MI,MJ,MI,MI,MJ,MI,MI]:=yx (b:=224) V Z
instance:ak prog 102:=yu V
instance:am prog 102 279 1:=vh V V
instance:ai prog 102 1:=yn V
instance:ak prog 103:=yu V
instance:am prog 103 77 1:=vh V V
instance:ai prog 103 1:=yn V
instance:ak prog 104:=yu V
instance:am prog 104 191 9:=vh V V
instance:ai prog 104 1:=yn V
instance:az prog 106 16:=xY V
instance:aj prog 106 0 0:=zW V
instance:aj prog 106 1 12:=zW V
instance:aj prog 106 2 13:=zW V
instance:aj prog 106 3 14:=zW V
instance:aj prog 106 4 15:=zW V
instance:ai prog 106 16:=yn V
instance:al prog 106 [MJ,MI,MI,MJ,MI,MI,MJ,MI,MI,MJ,MI,MI,MI,MI,MI,MI]:=yx (b:=320) V Z
instance:ak prog 107:=yu V
instance:am prog 107 4 1:=vh V V
instance:ai prog 107 1:=yn V
instance:al prog 107 [MI]:=yx (b:=24) V Z
instance:ak prog 108:=yu V
instance:am prog 108 200 2:=vh V V
instance:ai prog 108 1:=yn V
instance:al prog 108 [MI]:=yx (b:=24) V Z
instance:az prog 110 22:=xY V
instance:aj prog 110 0 0:=zW V
instance:aj prog 110 1 1:=zW V
instance:aj prog 110 2 2:=zW V
instance:aj prog 110 3 3:=zW V
instance:aj prog 110 4 19:=zW V
instance:aj prog 110 5 20:=zW V
instance:aj prog 110 6 21:=zW V
instance:ai prog 110 22:=yn V
instance:al prog 110 [MI,MI,MI,MJ,MI,MI,MJ,MI,MI,MJ,MI,MI,MJ,MI,MI,MI,MI,MI,MI,MI,MI,MI]:=yx (b:=464) V Z
instance:ak prog 116:=yu V
instance:ai prog 116 1:=yn V
instance:bI prog 119 2 3:=⟨46,V,V⟩
instance:al prog 119 [MJ,MI,MI,MJ,MI,MI]:=yx (b:=112) V Z
instance:ak prog 121:=yu V
instance:ak prog 125:=yu V
instance:aR prog 125 .u32:=⟨V⟩
instance:bW prog 125:=⟨V⟩
instance:ai prog 125 1:=yn V
instance:al prog 125 [.int .u32 0]:=yx (b:=4) V Z
instance:av prog 125 [.int .u32 0] 4:=wx V Z B
instance:ak prog 145:=yu V
instance:am prog 145 3 1:=vh V V
instance:ai prog 145 1:=yn V
instance:al prog 145 [MI]:=yx (b:=24) V Z
instance:ak prog 151:=yu V
instance:ak prog 154:=yu V
instance:ai prog 154 1:=yn V
instance:al prog 154 [.nilFunc]:=yx (b:=8) V Z
instance:au prog 156 [MJ,MI,MI] [(0,3)]:=⟨V,Z⟩
instance:aj prog 156 0 0:=zW V
instance:ak prog 157:=yu V
instance:ai prog 157 1:=yn V
instance:al prog 157 [.pointer none]:=yx (b:=8) V Z
instance:ak prog 162:=yu V
instance:aR prog 162 .u64:=⟨V⟩
instance:bW prog 162:=⟨V⟩
instance:ai prog 162 1:=yn V
instance:al prog 162 [.int .u64 0]:=yx (b:=8) V Z
instance:au prog 172 [MI,MI,MI,.int .i64 0] [(0,3),(3,1)]:=⟨V,Z⟩
instance:aj prog 172 0 0:=zW V
instance:aj prog 172 1 3:=zW V
instance:az prog 173 3:=xY V
instance:au prog 173 [.nilFunc,.nilFunc,.nilFunc] [(0,1),(1,1),(2,1)]:=⟨V,Z⟩
instance:ai prog 173 3:=yn V
instance:al prog 173 [.nilFunc,.nilFunc,.nilFunc]:=yx (b:=24) V Z
instance:az prog 180 18:=xY V
instance:au prog 180 [MJ,MI,MI,MJ,MI,MI,MJ,MI,MI,MJ,MI,MI,MJ,MI,MI,MJ,MI,MI] [(0,6),(6,6),(12,6)]:=⟨V,Z⟩
instance:bI prog 180 3 6:=⟨48,V,V⟩
instance:ai prog 180 18:=yn V
instance:al prog 180 [MJ,MI,MI,MJ,MI,MI,MJ,MI,MI,MJ,MI,MI,MJ,MI,MI,MJ,MI,MI]:=yx (b:=336) V Z
instance:av prog 180 [MJ,MI,MI,MJ,MI,MI,MJ,MI,MI,MJ,MI,MI,MJ,MI,MI,MJ,MI,MI] 336:=wx V Z B
instance:az prog 191 9:=xY V
instance:au prog 191 [.int .i8 0,.int .i64 0,.int .i64 0,MJ,MI,MI,MJ,MI,MI] [(0,1),(1,1),(2,1),(3,6)]:=⟨V,Z⟩
instance:aj prog 191 0 0:=zW V
instance:aj prog 191 1 1:=zW V
instance:aj prog 191 2 2:=zW V
instance:aj prog 191 3 3:=zW V
instance:ai prog 191 9:=yn V
instance:al prog 191 [.int .i8 0,.int .i64 0,.int .i64 0,MJ,MI,MI,MJ,MI,MI]:=yx (b:=136) V Z
instance:av prog 191 [.int .i8 0,.int .i64 0,.int .i64 0,MJ,MI,MI,MJ,MI,MI] 136:=wx V Z B
instance:ak prog 192:=yu V
instance:ai prog 192 1:=yn V
instance:al prog 192 [.nilFunc]:=yx (b:=8) V Z
instance:az prog 196 18:=xY V
instance:au prog 196 [MJ,MI,MI,MJ,MI,MI,MJ,MI,MI,MJ,MI,MI,MI,MI,MI,MI,MI,MI] [(0,16),(16,1),(17,1)]:=⟨V,Z⟩
instance:aj prog 196 0 0:=zW V
instance:aj prog 196 1 16:=zW V
instance:aj prog 196 2 17:=zW V
instance:ai prog 196 18:=yn V
instance:al prog 196 [MJ,MI,MI,MJ,MI,MI,MJ,MI,MI,MJ,MI,MI,MI,MI,MI,MI,MI,MI]:=yx (b:=368) V Z
instance:az prog 200 2:=xY V
instance:au prog 200 [.int .i64 0,.int .i64 0] [(0,1),(1,1)]:=⟨V,Z⟩
instance:aj prog 200 0 0:=zW V
instance:aj prog 200 1 1:=zW V
instance:ai prog 200 2:=yn V
instance:al prog 200 [.int .i64 0,.int .i64 0]:=yx (b:=16) V Z
instance:av prog 200 [.int .i64 0,.int .i64 0] 16:=wx V Z B
instance:az prog 214 13:=xY V
instance:au prog 214 [.int .i8 0,MJ,MI,MI,MJ,MI,MI,MJ,MI,MI,MJ,MI,MI] [(0,1),(1,6),(7,6)]:=⟨V,Z⟩
instance:aj prog 214 0 0:=zW V
instance:aj prog 214 1 1:=zW V
instance:aj prog 214 2 7:=zW V
instance:ai prog 214 13:=yn V
instance:al prog 214 [.int .i8 0,MJ,MI,MI,MJ,MI,MI,MJ,MI,MI,MJ,MI,MI]:=yx (b:=232) V Z
instance:ak prog 224:=yu V
instance:am prog 224 44 2:=vh V V
instance:aR prog 225 .u64:=⟨V⟩
instance:bW prog 225:=⟨V⟩
instance:bI prog 238 24 1:=⟨5,V,V⟩
instance:al prog 238 [.int .u8 0,.int .u8 0,.int .u8 0,.int .u8 0,.int .u8 0,.int .u8 0,.int .u8 0,.int .u8 0,.int .u8 0,.int .u8 0,.int .u8 0,.int .u8 0,.int .u8 0,.int .u8 0,.int .u8 0,.int .u8 0,.int .u8 0,.int .u8 0,.int .u8 0,.int .u8 0,.int .u8 0,.int .u8 0,.int .u8 0,.int .u8 0]:=yx (b:=24) V Z
instance:ak prog 262:=yu V
instance:ai prog 262 1:=yn V
instance:al prog 262 [.nilFunc]:=yx (b:=8) V Z
instance:ak prog 269:=yu V
instance:ai prog 269 1:=yn V
instance:al prog 269 [.nilFunc]:=yx (b:=8) V Z
instance:ak prog 277:=yu V
instance:am prog 277 363 12:=vh V V
instance:ai prog 277 1:=yn V
instance:ak prog 279:=yu V
instance:am prog 279 282 6:=vh V V
instance:ai prog 279 1:=yn V
instance:al prog 279 [MI]:=yx (b:=24) V Z
instance:av prog 279 [MI] 24:=wx V Z B
instance:az prog 282 6:=xY V
instance:au prog 282 [MJ,MI,MI,MJ,MI,MI] [(0,3),(3,3)]:=⟨V,Z⟩
instance:aj prog 282 0 0:=zW V
instance:aj prog 282 1 3:=zW V
instance:ai prog 282 6:=yn V
instance:al prog 282 [MJ,MI,MI,MJ,MI,MI]:=yx (b:=112) V Z
instance:av prog 282 [MJ,MI,MI,MJ,MI,MI] 112:=wx V Z B
instance:ak prog 290:=yu V
instance:ak prog 313:=yu V
instance:au prog 315 [MI,MI] [(0,1),(1,1)]:=⟨V,Z⟩
instance:aj prog 315 0 0:=zW V
instance:aj prog 315 1 1:=zW V
instance:az prog 356 12:=xY V
instance:au prog 356 [MJ,MI,MI,MJ,MI,MI,MJ,MI,MI,MJ,MI,MI] [(0,6),(6,6)]:=⟨V,Z⟩
instance:aj prog 356 0 0:=zW V
instance:aj prog 356 1 6:=zW V
instance:ai prog 356 12:=yn V
instance:al prog 356 [MJ,MI,MI,MJ,MI,MI,MJ,MI,MI,MJ,MI,MI]:=yx (b:=224) V Z
instance:az prog 363 12:=xY V
instance:au prog 363 [MJ,MI,MI,MJ,MI,MI,MJ,MI,MI,MJ,MI,MI] [(0,6),(6,6)]:=⟨V,Z⟩
instance:aj prog 363 0 0:=zW V
instance:aj prog 363 1 6:=zW V
instance:ai prog 363 12:=yn V
instance:al prog 363 [MJ,MI,MI,MJ,MI,MI,MJ,MI,MI,MJ,MI,MI]:=yx (b:=224) V Z
instance:av prog 363 [MJ,MI,MI,MJ,MI,MI,MJ,MI,MI,MJ,MI,MI] 224:=wx V Z B
instance:am prog 394 42 1:=vh V V
instance:au prog 399 [MJ,MI] [(0,2)]:=⟨V,Z⟩
instance:aj prog 399 0 0:=zW V
instance:ak prog 400:=yu V
instance:ai prog 400 1:=yn V
instance:al prog 400 [.pointer none]:=yx (b:=8) V Z
instance:az prog 414 13:=xY V
instance:au prog 414 [.int .i64 0,MJ,MI,MI,MJ,MI,MI,MJ,MI,MI,MJ,MI,MI] [(0,1),(1,6),(7,6)]:=⟨V,Z⟩
instance:aj prog 414 0 0:=zW V
instance:aj prog 414 1 1:=zW V
instance:aj prog 414 2 7:=zW V
instance:ai prog 414 13:=yn V
instance:al prog 414 [.int .i64 0,MJ,MI,MI,MJ,MI,MI,MJ,MI,MI,MJ,MI,MI]:=yx (b:=232) V Z
instance:au prog 422 [MI,MI,MI,MJ,MI,MI,MJ,MI,MI,MJ,MI,MI,MJ,MI,MI,MI,MI,MI,MI,MI,MI,MI] [(0,22)]:=⟨V,Z⟩
instance:aj prog 422 0 0:=zW V
instance:az prog 429 18:=xY V
instance:au prog 429 [MJ,MI,MI,MJ,MI,MI,MJ,MI,MI,MJ,MI,MI,MJ,MI,MI,MJ,MI,MI] [(0,6),(6,6),(12,6)]:=⟨V,Z⟩
instance:aj prog 429 0 0:=zW V
instance:aj prog 429 1 6:=zW V
instance:aj prog 429 2 12:=zW V
instance:ai prog 429 18:=yn V
instance:al prog 429 [MJ,MI,MI,MJ,MI,MI,MJ,MI,MI,MJ,MI,MI,MJ,MI,MI,MJ,MI,MI]:=yx (b:=336) V Z
instance:ak prog 432:=yu V
instance:az prog 433 3:=xY V
instance:au prog 433 [.pointer none,.pointer none,.pointer none] [(0,1),(1,1),(2,1)]:=⟨V,Z⟩
instance:aj prog 433 0 0:=zW V
instance:aj prog 433 1 1:=zW V
instance:aj prog 433 2 2:=zW V
instance:ai prog 433 3:=yn V
instance:al prog 433 [.pointer none,.pointer none,.pointer none]:=yx (b:=24) V Z
instance:au prog 434 [.pointer none,.pointer none,.pointer none,.pointer none,.pointer none,.pointer none] [(0,3),(3,3)]:=⟨V,Z⟩
instance:ak prog 459:=yu V
instance:aR prog 459 .u64:=⟨V⟩
instance:ai prog 459 1:=yn V
instance:al prog 459 [.int .u64 0]:=yx (b:=8) V Z
instance:bI prog 477 64 1:=⟨5,V,V⟩
instance:ak prog 483:=yu V
instance:az prog 488 2:=xY V
instance:au prog 488 [MI,MI] [(0,1),(1,1)]:=⟨V,Z⟩
instance:bI prog 488 2 1:=⟨29,V,V⟩
instance:ai prog 488 2:=yn V
instance:al prog 488 [MI,MI]:=yx (b:=48) V Z
instance:az prog 489 4:=xY V
instance:au prog 489 [MI,MI,MI,MI] [(0,2),(2,2)]:=⟨V,Z⟩
instance:ai prog 489 4:=yn V
instance:al prog 489 [MI,MI,MI,MI]:=yx (b:=96) V Z
instance:au prog 497 [MJ,MI,MI,MJ,MI,MI,MJ,MI,MI,MJ,MI,MI,MI,MI,MI,MI] [(0,16)]:=⟨V,Z⟩
instance:aj prog 497 0 0:=zW V
instance:ak prog 500:=yu V
instance:am prog 500 504 1:=vh V V
instance:ak prog 504:=yu V
instance:am prog 504 506 4:=vh V V
instance:ai prog 504 1:=yn V
instance:av prog 504 [MI] 24:=wx V Z B
instance:az prog 506 4:=xY V
instance:au prog 506 [.int .i64 0,MJ,MI,MI] [(0,1),(1,3)]:=⟨V,Z⟩
instance:aj prog 506 0 0:=zW V
instance:aj prog 506 1 1:=zW V
instance:ai prog 506 4:=yn V
instance:al prog 506 [.int .i64 0,MJ,MI,MI]:=yx (b:=64) V Z
instance:av prog 506 [.int .i64 0,MJ,MI,MI] 64:=wx V Z B
instance:az prog 544 5:=xY V
instance:au prog 544 [MJ,MI,MI,.int .i64 0,.int .i64 0] [(0,3),(3,1),(4,1)]:=⟨V,Z⟩
instance:aj prog 544 0 0:=zW V
instance:aj prog 544 1 3:=zW V
instance:aj prog 544 2 4:=zW V
instance:ai prog 544 5:=yn V
instance:al prog 544 [MJ,MI,MI,.int .i64 0,.int .i64 0]:=yx (b:=72) V Z
instance:av prog 544 [MJ,MI,MI,.int .i64 0,.int .i64 0] 72:=wx V Z B
instance:au prog 550 [.int .i64 0,.int .i64 0,.int .i64 0] [(0,1),(1,1),(2,1)]:=⟨V,Z⟩
instance:bI prog 550 3 1:=⟨3,V,V⟩
instance:ai prog 550 3:=yn V
instance:al prog 550 [.int .i64 0,.int .i64 0,.int .i64 0]:=yx (b:=24) V Z
instance:ak prog 565:=yu V
instance:am prog 565 544 5:=vh V V
instance:ai prog 565 1:=yn V
abbrev G0 (G:Go.Sv.Imm):=Go.Sv.zm prog G
end Go.Proofs
