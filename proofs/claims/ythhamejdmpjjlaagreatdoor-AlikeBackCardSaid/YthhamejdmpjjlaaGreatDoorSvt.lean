/- The facts on the types of this translation, each by the kernel. Written by gentypes.py. -/
import Derived.Test.YthhamejdmpjjlaaGreatDoorSvs
import Derived.Test.YthhamejdmpjjlaaGreatDoorProg
import Derived.KernelRfl
namespace Go.Proofs
open Go Go.Sv
instance:Mixed Tryz.prog:=⟨by kernel_rfl⟩
instance:IsScalar Tryz.prog 3:=yv (by kernel_rfl)
instance:IsInt Tryz.prog 3 .i64:=⟨by kernel_rfl⟩
instance:HasTy Tryz.prog 3:=⟨by kernel_rfl⟩
instance:HasSize Tryz.prog 3 1:=yr (by kernel_rfl)
instance:IsZero Tryz.prog 3 [.int .i64 0]:=yD (b:=8) (by kernel_rfl) rfl
instance:IsElem Tryz.prog 3 [.int .i64 0] 8:=wL (by kernel_rfl) rfl (by simp)
instance:IsScalar Tryz.prog 4:=yv (by kernel_rfl)
theorem Tryz.isBool4:Tryz.prog.underlying 4=some .bool:=by kernel_rfl
instance:HasSize Tryz.prog 4 1:=yr (by kernel_rfl)
instance:IsZero Tryz.prog 4 [.bool false]:=yD (b:=1) (by kernel_rfl) rfl
instance:IsElem Tryz.prog 4 [.bool false] 1:=wL (by kernel_rfl) rfl (by simp)
instance:IsScalar Tryz.prog 5:=yv (by kernel_rfl)
instance:IsInt Tryz.prog 5 .u8:=⟨by kernel_rfl⟩
instance:HasTy Tryz.prog 5:=⟨by kernel_rfl⟩
instance:IsScalar Tryz.prog 9:=yv (by kernel_rfl)
instance:IsStr Tryz.prog 9:=⟨by kernel_rfl⟩
instance:HasSize Tryz.prog 9 1:=yr (by kernel_rfl)
instance:IsZero Tryz.prog 9 [.string ⟨#[]⟩]:=yD (b:=16) (by kernel_rfl) rfl
instance:IsElem Tryz.prog 9 [.string ⟨#[]⟩] 16:=wL (by kernel_rfl) rfl (by simp)
instance:HasTy Tryz.prog 21:=⟨by kernel_rfl⟩
instance:IsScalar Tryz.prog 22:=yv (by kernel_rfl)
instance:IsSl Tryz.prog 22 41 6:=wD (by kernel_rfl) (by kernel_rfl)
instance:HasSize Tryz.prog 22 1:=yr (by kernel_rfl)
instance:IsZero Tryz.prog 22 [.slice none 0 0]:=yD (b:=24) (by kernel_rfl) rfl
instance:IsElem Tryz.prog 22 [.slice none 0 0] 24:=wL (by kernel_rfl) rfl (by simp)
instance:IsScalar Tryz.prog 23:=yv (by kernel_rfl)
instance:IsSl Tryz.prog 23 22 1:=wD (by kernel_rfl) (by kernel_rfl)
instance:HasSize Tryz.prog 23 1:=yr (by kernel_rfl)
instance:IsScalar Tryz.prog 24:=yv (by kernel_rfl)
instance:IsSl Tryz.prog 24 43 12:=wD (by kernel_rfl) (by kernel_rfl)
instance:HasSize Tryz.prog 24 1:=yr (by kernel_rfl)
instance:IsAgg Tryz.prog 26 3:=ww (by kernel_rfl)
instance:IsBuild Tryz.prog 26 [.slice none 0 0,.slice none 0 0,.slice none 0 0] [(0,1),(1,1),(2,1)]:=⟨by kernel_rfl,rfl⟩
instance:IsField Tryz.prog 26 0 0:=zV (by kernel_rfl)
instance:IsField Tryz.prog 26 1 1:=zV (by kernel_rfl)
instance:IsField Tryz.prog 26 2 2:=zV (by kernel_rfl)
instance:HasSize Tryz.prog 26 3:=yr (by kernel_rfl)
instance:IsZero Tryz.prog 26 [.slice none 0 0,.slice none 0 0,.slice none 0 0]:=yD (b:=72) (by kernel_rfl) rfl
instance:IsScalar Tryz.prog 27:=yv (by kernel_rfl)
instance:HasSize Tryz.prog 27 1:=yr (by kernel_rfl)
instance:IsScalar Tryz.prog 35:=yv (by kernel_rfl)
instance:IsSl Tryz.prog 35 64 1:=wD (by kernel_rfl) (by kernel_rfl)
instance:HasSize Tryz.prog 35 1:=yr (by kernel_rfl)
instance:IsZero Tryz.prog 35 [.slice none 0 0]:=yD (b:=24) (by kernel_rfl) rfl
instance:IsAgg Tryz.prog 37 2:=ww (by kernel_rfl)
instance:IsBuild Tryz.prog 37 [.bool false,.slice none 0 0] [(0,1),(1,1)]:=⟨by kernel_rfl,rfl⟩
instance:IsField Tryz.prog 37 0 0:=zV (by kernel_rfl)
instance:IsField Tryz.prog 37 1 1:=zV (by kernel_rfl)
instance:HasSize Tryz.prog 37 2:=yr (by kernel_rfl)
instance:IsZero Tryz.prog 37 [.bool false,.slice none 0 0]:=yD (b:=32) (by kernel_rfl) rfl
instance:IsAgg Tryz.prog 39 3:=ww (by kernel_rfl)
instance:IsBuild Tryz.prog 39 [.bool false,.slice none 0 0,.slice none 0 0] [(0,2),(2,1)]:=⟨by kernel_rfl,rfl⟩
instance:IsField Tryz.prog 39 0 0:=zV (by kernel_rfl)
instance:IsField Tryz.prog 39 1 2:=zV (by kernel_rfl)
instance:HasSize Tryz.prog 39 3:=yr (by kernel_rfl)
instance:IsZero Tryz.prog 39 [.bool false,.slice none 0 0,.slice none 0 0]:=yD (b:=56) (by kernel_rfl) rfl
instance:IsElem Tryz.prog 39 [.bool false,.slice none 0 0,.slice none 0 0] 56:=wL (by kernel_rfl) rfl (by simp)
instance:IsAgg Tryz.prog 41 6:=ww (by kernel_rfl)
instance:IsBuild Tryz.prog 41 [.bool false,.slice none 0 0,.slice none 0 0,.bool false,.slice none 0 0,.slice none 0 0] [(0,3),(3,3)]:=⟨by kernel_rfl,rfl⟩
instance:IsField Tryz.prog 41 0 0:=zV (by kernel_rfl)
instance:IsField Tryz.prog 41 1 3:=zV (by kernel_rfl)
instance:HasSize Tryz.prog 41 6:=yr (by kernel_rfl)
instance:IsZero Tryz.prog 41 [.bool false,.slice none 0 0,.slice none 0 0,.bool false,.slice none 0 0,.slice none 0 0]:=yD (b:=112) (by kernel_rfl) rfl
instance:IsElem Tryz.prog 41 [.bool false,.slice none 0 0,.slice none 0 0,.bool false,.slice none 0 0,.slice none 0 0] 112:=wL (by kernel_rfl) rfl (by simp)
instance:IsAgg Tryz.prog 43 12:=ww (by kernel_rfl)
instance:IsBuild Tryz.prog 43 [.bool false,.slice none 0 0,.slice none 0 0,.bool false,.slice none 0 0,.slice none 0 0,.bool false,.slice none 0 0,.slice none 0 0,.bool false,.slice none 0 0,.slice none 0 0] [(0,6),(6,6)]:=⟨by kernel_rfl,rfl⟩
instance:IsField Tryz.prog 43 0 0:=zV (by kernel_rfl)
instance:IsField Tryz.prog 43 1 6:=zV (by kernel_rfl)
instance:HasSize Tryz.prog 43 12:=yr (by kernel_rfl)
instance:IsZero Tryz.prog 43 [.bool false,.slice none 0 0,.slice none 0 0,.bool false,.slice none 0 0,.slice none 0 0,.bool false,.slice none 0 0,.slice none 0 0,.bool false,.slice none 0 0,.slice none 0 0]:=yD (b:=224) (by kernel_rfl) rfl
instance:IsElem Tryz.prog 43 [.bool false,.slice none 0 0,.slice none 0 0,.bool false,.slice none 0 0,.slice none 0 0,.bool false,.slice none 0 0,.slice none 0 0,.bool false,.slice none 0 0,.slice none 0 0] 224:=wL (by kernel_rfl) rfl (by simp)
instance:IsScalar Tryz.prog 53:=yv (by kernel_rfl)
instance:IsScalar Tryz.prog 56:=yv (by kernel_rfl)
instance:IsScalar Tryz.prog 64:=yv (by kernel_rfl)
instance:IsInt Tryz.prog 64 .u32:=⟨by kernel_rfl⟩
instance:HasTy Tryz.prog 64:=⟨by kernel_rfl⟩
instance:HasSize Tryz.prog 64 1:=yr (by kernel_rfl)
instance:IsZero Tryz.prog 64 [.int .u32 0]:=yD (b:=4) (by kernel_rfl) rfl
instance:IsElem Tryz.prog 64 [.int .u32 0] 4:=wL (by kernel_rfl) rfl (by simp)
instance:IsScalar Tryz.prog 71:=yv (by kernel_rfl)
instance:IsSl Tryz.prog 71 9 1:=wD (by kernel_rfl) (by kernel_rfl)
instance:HasSize Tryz.prog 71 1:=yr (by kernel_rfl)
instance:IsZero Tryz.prog 71 [.slice none 0 0]:=yD (b:=24) (by kernel_rfl) rfl
instance:IsSl Tryz.prog 72 76 1:=wD (by kernel_rfl) (by kernel_rfl)
instance:IsScalar Tryz.prog 76:=yv (by kernel_rfl)
instance:IsScalar Tryz.prog 81:=yv (by kernel_rfl)
instance:HasSize Tryz.prog 81 1:=yr (by kernel_rfl)
instance:IsZero Tryz.prog 81 [.pointer none]:=yD (b:=8) (by kernel_rfl) rfl
instance:IsBuild Tryz.prog 85 [.bool false,.slice none 0 0,.slice none 0 0] [(0,3)]:=⟨by kernel_rfl,rfl⟩
instance:IsField Tryz.prog 85 0 0:=zV (by kernel_rfl)
instance:IsScalar Tryz.prog 88:=yv (by kernel_rfl)
instance:IsSl Tryz.prog 88 3 1:=wD (by kernel_rfl) (by kernel_rfl)
instance:HasSize Tryz.prog 88 1:=yr (by kernel_rfl)
instance:IsZero Tryz.prog 88 [.slice none 0 0]:=yD (b:=24) (by kernel_rfl) rfl
instance:IsScalar Tryz.prog 93:=yv (by kernel_rfl)
instance:IsScalar Tryz.prog 95:=yv (by kernel_rfl)
instance:IsScalar Tryz.prog 100:=yv (by kernel_rfl)
instance:IsInt Tryz.prog 100 .u64:=⟨by kernel_rfl⟩
instance:HasTy Tryz.prog 100:=⟨by kernel_rfl⟩
instance:HasSize Tryz.prog 100 1:=yr (by kernel_rfl)
instance:IsZero Tryz.prog 100 [.int .u64 0]:=yD (b:=8) (by kernel_rfl) rfl
instance:IsScalar Tryz.prog 104:=yv (by kernel_rfl)
instance:HasSize Tryz.prog 104 1:=yr (by kernel_rfl)
instance:IsZero Tryz.prog 104 [.nilFunc]:=yD (b:=8) (by kernel_rfl) rfl
instance:IsScalar Tryz.prog 105:=yv (by kernel_rfl)
instance:IsSl Tryz.prog 105 109 5:=wD (by kernel_rfl) (by kernel_rfl)
instance:IsAgg Tryz.prog 122 13:=ww (by kernel_rfl)
instance:IsBuild Tryz.prog 122 [.int .i8 0,.bool false,.slice none 0 0,.slice none 0 0,.bool false,.slice none 0 0,.slice none 0 0,.bool false,.slice none 0 0,.slice none 0 0,.bool false,.slice none 0 0,.slice none 0 0] [(0,1),(1,6),(7,6)]:=⟨by kernel_rfl,rfl⟩
instance:IsField Tryz.prog 122 0 0:=zV (by kernel_rfl)
instance:HasSize Tryz.prog 122 13:=yr (by kernel_rfl)
instance:IsZero Tryz.prog 122 [.int .i8 0,.bool false,.slice none 0 0,.slice none 0 0,.bool false,.slice none 0 0,.slice none 0 0,.bool false,.slice none 0 0,.slice none 0 0,.bool false,.slice none 0 0,.slice none 0 0]:=yD (b:=232) (by kernel_rfl) rfl
instance:IsScalar Tryz.prog 124:=yv (by kernel_rfl)
instance:IsSl Tryz.prog 124 39 3:=wD (by kernel_rfl) (by kernel_rfl)
instance:HasSize Tryz.prog 124 1:=yr (by kernel_rfl)
instance:IsZero Tryz.prog 124 [.slice none 0 0]:=yD (b:=24) (by kernel_rfl) rfl
instance:IsElem Tryz.prog 124 [.slice none 0 0] 24:=wL (by kernel_rfl) rfl (by simp)
instance:IsInt Tryz.prog 136 .u64:=⟨by kernel_rfl⟩
instance:IsSl Tryz.prog 141 5 1:=wD (by kernel_rfl) (by kernel_rfl)
instance:IsScalar Tryz.prog 164:=yv (by kernel_rfl)
instance:IsSl Tryz.prog 164 276 18:=wD (by kernel_rfl) (by kernel_rfl)
instance:HasSize Tryz.prog 164 1:=yr (by kernel_rfl)
instance:IsAgg Tryz.prog 166 12:=ww (by kernel_rfl)
instance:IsBuild Tryz.prog 166 [.bool false,.slice none 0 0,.slice none 0 0,.bool false,.slice none 0 0,.slice none 0 0,.bool false,.slice none 0 0,.slice none 0 0,.bool false,.slice none 0 0,.slice none 0 0] [(0,6),(6,6)]:=⟨by kernel_rfl,rfl⟩
instance:IsField Tryz.prog 166 0 0:=zV (by kernel_rfl)
instance:IsField Tryz.prog 166 1 6:=zV (by kernel_rfl)
instance:HasSize Tryz.prog 166 12:=yr (by kernel_rfl)
instance:IsZero Tryz.prog 166 [.bool false,.slice none 0 0,.slice none 0 0,.bool false,.slice none 0 0,.slice none 0 0,.bool false,.slice none 0 0,.slice none 0 0,.bool false,.slice none 0 0,.slice none 0 0]:=yD (b:=224) (by kernel_rfl) rfl
instance:IsScalar Tryz.prog 167:=yv (by kernel_rfl)
instance:IsSl Tryz.prog 167 347 1:=wD (by kernel_rfl) (by kernel_rfl)
instance:HasSize Tryz.prog 167 1:=yr (by kernel_rfl)
instance:IsScalar Tryz.prog 168:=yv (by kernel_rfl)
instance:IsSl Tryz.prog 168 124 1:=wD (by kernel_rfl) (by kernel_rfl)
instance:HasSize Tryz.prog 168 1:=yr (by kernel_rfl)
instance:IsScalar Tryz.prog 169:=yv (by kernel_rfl)
instance:IsSl Tryz.prog 169 287 9:=wD (by kernel_rfl) (by kernel_rfl)
instance:HasSize Tryz.prog 169 1:=yr (by kernel_rfl)
instance:IsAgg Tryz.prog 171 16:=ww (by kernel_rfl)
instance:IsField Tryz.prog 171 0 0:=zV (by kernel_rfl)
instance:IsField Tryz.prog 171 1 12:=zV (by kernel_rfl)
instance:IsField Tryz.prog 171 2 13:=zV (by kernel_rfl)
instance:IsField Tryz.prog 171 3 14:=zV (by kernel_rfl)
instance:IsField Tryz.prog 171 4 15:=zV (by kernel_rfl)
instance:HasSize Tryz.prog 171 16:=yr (by kernel_rfl)
instance:IsZero Tryz.prog 171 [.bool false,.slice none 0 0,.slice none 0 0,.bool false,.slice none 0 0,.slice none 0 0,.bool false,.slice none 0 0,.slice none 0 0,.bool false,.slice none 0 0,.slice none 0 0,.slice none 0 0,.slice none 0 0,.slice none 0 0,.slice none 0 0]:=yD (b:=320) (by kernel_rfl) rfl
instance:IsScalar Tryz.prog 172:=yv (by kernel_rfl)
instance:IsSl Tryz.prog 172 4 1:=wD (by kernel_rfl) (by kernel_rfl)
instance:HasSize Tryz.prog 172 1:=yr (by kernel_rfl)
instance:IsZero Tryz.prog 172 [.slice none 0 0]:=yD (b:=24) (by kernel_rfl) rfl
instance:IsScalar Tryz.prog 173:=yv (by kernel_rfl)
instance:IsSl Tryz.prog 173 295 2:=wD (by kernel_rfl) (by kernel_rfl)
instance:HasSize Tryz.prog 173 1:=yr (by kernel_rfl)
instance:IsZero Tryz.prog 173 [.slice none 0 0]:=yD (b:=24) (by kernel_rfl) rfl
instance:IsAgg Tryz.prog 175 22:=ww (by kernel_rfl)
instance:IsField Tryz.prog 175 0 0:=zV (by kernel_rfl)
instance:IsField Tryz.prog 175 1 1:=zV (by kernel_rfl)
instance:IsField Tryz.prog 175 2 2:=zV (by kernel_rfl)
instance:IsField Tryz.prog 175 3 3:=zV (by kernel_rfl)
instance:IsField Tryz.prog 175 4 19:=zV (by kernel_rfl)
instance:IsField Tryz.prog 175 5 20:=zV (by kernel_rfl)
instance:IsField Tryz.prog 175 6 21:=zV (by kernel_rfl)
instance:HasSize Tryz.prog 175 22:=yr (by kernel_rfl)
instance:IsZero Tryz.prog 175 [.slice none 0 0,.slice none 0 0,.slice none 0 0,.bool false,.slice none 0 0,.slice none 0 0,.bool false,.slice none 0 0,.slice none 0 0,.bool false,.slice none 0 0,.slice none 0 0,.bool false,.slice none 0 0,.slice none 0 0,.slice none 0 0,.slice none 0 0,.slice none 0 0,.slice none 0 0,.slice none 0 0,.slice none 0 0,.slice none 0 0]:=yD (b:=464) (by kernel_rfl) rfl
instance:IsBuild Tryz.prog 182 [.bool false,.slice none 0 0] [(0,2)]:=⟨by kernel_rfl,rfl⟩
instance:IsField Tryz.prog 182 0 0:=zV (by kernel_rfl)
instance:IsScalar Tryz.prog 183:=yv (by kernel_rfl)
instance:HasSize Tryz.prog 183 1:=yr (by kernel_rfl)
instance:IsZero Tryz.prog 183 [.pointer none]:=yD (b:=8) (by kernel_rfl) rfl
instance:IsScalar Tryz.prog 199:=yv (by kernel_rfl)
instance:IsBuild Tryz.prog 202 [.slice none 0 0,.slice none 0 0] [(0,1),(1,1)]:=⟨by kernel_rfl,rfl⟩
instance:IsField Tryz.prog 202 0 0:=zV (by kernel_rfl)
instance:IsField Tryz.prog 202 1 1:=zV (by kernel_rfl)
instance:IsArr Tryz.prog 208 24 1:=⟨5,by kernel_rfl,by kernel_rfl⟩
instance:IsZero Tryz.prog 208 [.int .u8 0,.int .u8 0,.int .u8 0,.int .u8 0,.int .u8 0,.int .u8 0,.int .u8 0,.int .u8 0,.int .u8 0,.int .u8 0,.int .u8 0,.int .u8 0,.int .u8 0,.int .u8 0,.int .u8 0,.int .u8 0,.int .u8 0,.int .u8 0,.int .u8 0,.int .u8 0,.int .u8 0,.int .u8 0,.int .u8 0,.int .u8 0]:=yD (b:=24) (by kernel_rfl) rfl
instance:IsScalar Tryz.prog 244:=yv (by kernel_rfl)
instance:IsSl Tryz.prog 244 37 2:=wD (by kernel_rfl) (by kernel_rfl)
instance:IsScalar Tryz.prog 253:=yv (by kernel_rfl)
instance:HasSize Tryz.prog 253 1:=yr (by kernel_rfl)
instance:IsZero Tryz.prog 253 [.nilFunc]:=yD (b:=8) (by kernel_rfl) rfl
instance:IsBuild Tryz.prog 267 [.slice none 0 0,.slice none 0 0,.slice none 0 0,.int .i64 0] [(0,3),(3,1)]:=⟨by kernel_rfl,rfl⟩
instance:IsField Tryz.prog 267 0 0:=zV (by kernel_rfl)
instance:IsField Tryz.prog 267 1 3:=zV (by kernel_rfl)
instance:IsAgg Tryz.prog 269 3:=ww (by kernel_rfl)
instance:IsBuild Tryz.prog 269 [.nilFunc,.nilFunc,.nilFunc] [(0,1),(1,1),(2,1)]:=⟨by kernel_rfl,rfl⟩
instance:HasSize Tryz.prog 269 3:=yr (by kernel_rfl)
instance:IsZero Tryz.prog 269 [.nilFunc,.nilFunc,.nilFunc]:=yD (b:=24) (by kernel_rfl) rfl
instance:IsAgg Tryz.prog 287 9:=ww (by kernel_rfl)
instance:IsBuild Tryz.prog 287 [.int .i8 0,.int .i64 0,.int .i64 0,.bool false,.slice none 0 0,.slice none 0 0,.bool false,.slice none 0 0,.slice none 0 0] [(0,1),(1,1),(2,1),(3,6)]:=⟨by kernel_rfl,rfl⟩
instance:IsField Tryz.prog 287 0 0:=zV (by kernel_rfl)
instance:IsField Tryz.prog 287 1 1:=zV (by kernel_rfl)
instance:IsField Tryz.prog 287 2 2:=zV (by kernel_rfl)
instance:IsField Tryz.prog 287 3 3:=zV (by kernel_rfl)
instance:HasSize Tryz.prog 287 9:=yr (by kernel_rfl)
instance:IsZero Tryz.prog 287 [.int .i8 0,.int .i64 0,.int .i64 0,.bool false,.slice none 0 0,.slice none 0 0,.bool false,.slice none 0 0,.slice none 0 0]:=yD (b:=136) (by kernel_rfl) rfl
instance:IsElem Tryz.prog 287 [.int .i8 0,.int .i64 0,.int .i64 0,.bool false,.slice none 0 0,.slice none 0 0,.bool false,.slice none 0 0,.slice none 0 0] 136:=wL (by kernel_rfl) rfl (by simp)
instance:IsAgg Tryz.prog 291 18:=ww (by kernel_rfl)
instance:IsBuild Tryz.prog 291 [.bool false,.slice none 0 0,.slice none 0 0,.bool false,.slice none 0 0,.slice none 0 0,.bool false,.slice none 0 0,.slice none 0 0,.bool false,.slice none 0 0,.slice none 0 0,.slice none 0 0,.slice none 0 0,.slice none 0 0,.slice none 0 0,.slice none 0 0,.slice none 0 0] [(0,16),(16,1),(17,1)]:=⟨by kernel_rfl,rfl⟩
instance:IsField Tryz.prog 291 0 0:=zV (by kernel_rfl)
instance:IsField Tryz.prog 291 1 16:=zV (by kernel_rfl)
instance:IsField Tryz.prog 291 2 17:=zV (by kernel_rfl)
instance:HasSize Tryz.prog 291 18:=yr (by kernel_rfl)
instance:IsZero Tryz.prog 291 [.bool false,.slice none 0 0,.slice none 0 0,.bool false,.slice none 0 0,.slice none 0 0,.bool false,.slice none 0 0,.slice none 0 0,.bool false,.slice none 0 0,.slice none 0 0,.slice none 0 0,.slice none 0 0,.slice none 0 0,.slice none 0 0,.slice none 0 0,.slice none 0 0]:=yD (b:=368) (by kernel_rfl) rfl
instance:IsAgg Tryz.prog 295 2:=ww (by kernel_rfl)
instance:IsBuild Tryz.prog 295 [.int .i64 0,.int .i64 0] [(0,1),(1,1)]:=⟨by kernel_rfl,rfl⟩
instance:IsField Tryz.prog 295 0 0:=zV (by kernel_rfl)
instance:IsField Tryz.prog 295 1 1:=zV (by kernel_rfl)
instance:HasSize Tryz.prog 295 2:=yr (by kernel_rfl)
instance:IsZero Tryz.prog 295 [.int .i64 0,.int .i64 0]:=yD (b:=16) (by kernel_rfl) rfl
instance:IsElem Tryz.prog 295 [.int .i64 0,.int .i64 0] 16:=wL (by kernel_rfl) rfl (by simp)
instance:IsSl Tryz.prog 299 35 1:=wD (by kernel_rfl) (by kernel_rfl)
instance:IsScalar Tryz.prog 334:=yv (by kernel_rfl)
instance:HasSize Tryz.prog 334 1:=yr (by kernel_rfl)
instance:IsZero Tryz.prog 334 [.nilFunc]:=yD (b:=8) (by kernel_rfl) rfl
instance:HasSize Tryz.prog 339 1:=yr (by kernel_rfl)
instance:IsZero Tryz.prog 339 [.nilFunc]:=yD (b:=8) (by kernel_rfl) rfl
instance:IsScalar Tryz.prog 345:=yv (by kernel_rfl)
instance:IsSl Tryz.prog 345 394 12:=wD (by kernel_rfl) (by kernel_rfl)
instance:IsScalar Tryz.prog 347:=yv (by kernel_rfl)
instance:IsSl Tryz.prog 347 350 6:=wD (by kernel_rfl) (by kernel_rfl)
instance:IsZero Tryz.prog 347 [.slice none 0 0]:=yD (b:=24) (by kernel_rfl) rfl
instance:IsElem Tryz.prog 347 [.slice none 0 0] 24:=wL (by kernel_rfl) rfl (by simp)
instance:IsAgg Tryz.prog 350 6:=ww (by kernel_rfl)
instance:IsBuild Tryz.prog 350 [.bool false,.slice none 0 0,.slice none 0 0,.bool false,.slice none 0 0,.slice none 0 0] [(0,3),(3,3)]:=⟨by kernel_rfl,rfl⟩
instance:IsField Tryz.prog 350 0 0:=zV (by kernel_rfl)
instance:IsField Tryz.prog 350 1 3:=zV (by kernel_rfl)
instance:HasSize Tryz.prog 350 6:=yr (by kernel_rfl)
instance:IsZero Tryz.prog 350 [.bool false,.slice none 0 0,.slice none 0 0,.bool false,.slice none 0 0,.slice none 0 0]:=yD (b:=112) (by kernel_rfl) rfl
instance:IsElem Tryz.prog 350 [.bool false,.slice none 0 0,.slice none 0 0,.bool false,.slice none 0 0,.slice none 0 0] 112:=wL (by kernel_rfl) rfl (by simp)
instance:IsScalar Tryz.prog 358:=yv (by kernel_rfl)
instance:IsArr Tryz.prog 366 64 1:=⟨5,by kernel_rfl,by kernel_rfl⟩
instance:IsAgg Tryz.prog 386 12:=ww (by kernel_rfl)
instance:IsBuild Tryz.prog 386 [.bool false,.slice none 0 0,.slice none 0 0,.bool false,.slice none 0 0,.slice none 0 0,.bool false,.slice none 0 0,.slice none 0 0,.bool false,.slice none 0 0,.slice none 0 0] [(0,6),(6,6)]:=⟨by kernel_rfl,rfl⟩
instance:IsField Tryz.prog 386 0 0:=zV (by kernel_rfl)
instance:IsField Tryz.prog 386 1 6:=zV (by kernel_rfl)
instance:HasSize Tryz.prog 386 12:=yr (by kernel_rfl)
instance:IsZero Tryz.prog 386 [.bool false,.slice none 0 0,.slice none 0 0,.bool false,.slice none 0 0,.slice none 0 0,.bool false,.slice none 0 0,.slice none 0 0,.bool false,.slice none 0 0,.slice none 0 0]:=yD (b:=224) (by kernel_rfl) rfl
instance:IsAgg Tryz.prog 431 13:=ww (by kernel_rfl)
instance:IsBuild Tryz.prog 431 [.int .i64 0,.bool false,.slice none 0 0,.slice none 0 0,.bool false,.slice none 0 0,.slice none 0 0,.bool false,.slice none 0 0,.slice none 0 0,.bool false,.slice none 0 0,.slice none 0 0] [(0,1),(1,6),(7,6)]:=⟨by kernel_rfl,rfl⟩
instance:IsField Tryz.prog 431 0 0:=zV (by kernel_rfl)
instance:IsField Tryz.prog 431 1 1:=zV (by kernel_rfl)
instance:IsField Tryz.prog 431 2 7:=zV (by kernel_rfl)
instance:HasSize Tryz.prog 431 13:=yr (by kernel_rfl)
instance:IsZero Tryz.prog 431 [.int .i64 0,.bool false,.slice none 0 0,.slice none 0 0,.bool false,.slice none 0 0,.slice none 0 0,.bool false,.slice none 0 0,.slice none 0 0,.bool false,.slice none 0 0,.slice none 0 0]:=yD (b:=232) (by kernel_rfl) rfl
instance:IsAgg Tryz.prog 445 18:=ww (by kernel_rfl)
instance:IsBuild Tryz.prog 445 [.bool false,.slice none 0 0,.slice none 0 0,.bool false,.slice none 0 0,.slice none 0 0,.bool false,.slice none 0 0,.slice none 0 0,.bool false,.slice none 0 0,.slice none 0 0,.bool false,.slice none 0 0,.slice none 0 0,.bool false,.slice none 0 0,.slice none 0 0] [(0,6),(6,6),(12,6)]:=⟨by kernel_rfl,rfl⟩
instance:IsField Tryz.prog 445 0 0:=zV (by kernel_rfl)
instance:IsField Tryz.prog 445 1 6:=zV (by kernel_rfl)
instance:IsField Tryz.prog 445 2 12:=zV (by kernel_rfl)
instance:HasSize Tryz.prog 445 18:=yr (by kernel_rfl)
instance:IsZero Tryz.prog 445 [.bool false,.slice none 0 0,.slice none 0 0,.bool false,.slice none 0 0,.slice none 0 0,.bool false,.slice none 0 0,.slice none 0 0,.bool false,.slice none 0 0,.slice none 0 0,.bool false,.slice none 0 0,.slice none 0 0,.bool false,.slice none 0 0,.slice none 0 0]:=yD (b:=336) (by kernel_rfl) rfl
instance:IsScalar Tryz.prog 480:=yv (by kernel_rfl)
instance:IsBuild Tryz.prog 543 [.int .i64 0,.int .i64 0,.int .i64 0] [(0,1),(1,1),(2,1)]:=⟨by kernel_rfl,rfl⟩
instance:IsArr Tryz.prog 543 3 1:=⟨3,by kernel_rfl,by kernel_rfl⟩
instance:HasSize Tryz.prog 543 3:=yr (by kernel_rfl)
instance:IsZero Tryz.prog 543 [.int .i64 0,.int .i64 0,.int .i64 0]:=yD (b:=24) (by kernel_rfl) rfl
end Go.Proofs
