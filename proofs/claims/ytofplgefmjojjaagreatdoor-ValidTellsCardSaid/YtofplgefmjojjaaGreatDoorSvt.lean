/- The facts on the types of this translation, each by the kernel. Written by gentypes.py. -/
import Derived.Test.YtofplgefmjojjaaGreatDoorSvv
import Derived.Test.YtofplgefmjojjaaGreatDoorProg
import Derived.KernelRfl
namespace Go.Proofs
open Go Go.Sv
instance : Mixed Tryz.prog := ⟨by kernel_rfl⟩
instance : IsScalar Tryz.prog 3 := isScalar_mk (by kernel_rfl)
instance : IsInt Tryz.prog 3 .i64 := ⟨by kernel_rfl⟩
instance : HasTy Tryz.prog 3 := ⟨by kernel_rfl⟩
instance : HasSize Tryz.prog 3 1 := hasSize_mk (by kernel_rfl)
instance : IsZero Tryz.prog 3 [.int .i64 0] := isZero_mk (b := 8) (by kernel_rfl) rfl
instance : IsElem Tryz.prog 3 [.int .i64 0] 8 := isElem_mk (by kernel_rfl) rfl (by simp)
instance : IsScalar Tryz.prog 4 := isScalar_mk (by kernel_rfl)
theorem Tryz.isBool4 : Tryz.prog.underlying 4 = some .bool := by kernel_rfl
instance : HasSize Tryz.prog 4 1 := hasSize_mk (by kernel_rfl)
instance : IsZero Tryz.prog 4 [.bool false] := isZero_mk (b := 1) (by kernel_rfl) rfl
instance : IsScalar Tryz.prog 5 := isScalar_mk (by kernel_rfl)
instance : IsInt Tryz.prog 5 .u8 := ⟨by kernel_rfl⟩
instance : HasTy Tryz.prog 5 := ⟨by kernel_rfl⟩
instance : IsScalar Tryz.prog 9 := isScalar_mk (by kernel_rfl)
instance : IsStr Tryz.prog 9 := ⟨by kernel_rfl⟩
instance : HasSize Tryz.prog 9 1 := hasSize_mk (by kernel_rfl)
instance : IsZero Tryz.prog 9 [.string ⟨#[]⟩] := isZero_mk (b := 16) (by kernel_rfl) rfl
instance : IsElem Tryz.prog 9 [.string ⟨#[]⟩] 16 := isElem_mk (by kernel_rfl) rfl (by simp)
instance : HasTy Tryz.prog 21 := ⟨by kernel_rfl⟩
instance : IsScalar Tryz.prog 22 := isScalar_mk (by kernel_rfl)
instance : IsSl Tryz.prog 22 30 6 := isSl_mk (by kernel_rfl) (by kernel_rfl)
instance : HasSize Tryz.prog 22 1 := hasSize_mk (by kernel_rfl)
instance : IsZero Tryz.prog 22 [.slice none 0 0] := isZero_mk (b := 24) (by kernel_rfl) rfl
instance : IsElem Tryz.prog 22 [.slice none 0 0] 24 := isElem_mk (by kernel_rfl) rfl (by simp)
instance : IsScalar Tryz.prog 24 := isScalar_mk (by kernel_rfl)
instance : IsSl Tryz.prog 24 93 1 := isSl_mk (by kernel_rfl) (by kernel_rfl)
instance : HasSize Tryz.prog 24 1 := hasSize_mk (by kernel_rfl)
instance : IsZero Tryz.prog 24 [.slice none 0 0] := isZero_mk (b := 24) (by kernel_rfl) rfl
instance : IsAgg Tryz.prog 26 2 := isAgg_mk (by kernel_rfl)
instance : IsBuild Tryz.prog 26 [.bool false, .slice none 0 0] [(0, 1), (1, 1)] := ⟨by kernel_rfl, rfl⟩
instance : IsField Tryz.prog 26 0 0 := isField_mk (by kernel_rfl)
instance : IsField Tryz.prog 26 1 1 := isField_mk (by kernel_rfl)
instance : HasSize Tryz.prog 26 2 := hasSize_mk (by kernel_rfl)
instance : IsZero Tryz.prog 26 [.bool false, .slice none 0 0] := isZero_mk (b := 32) (by kernel_rfl) rfl
instance : IsAgg Tryz.prog 28 3 := isAgg_mk (by kernel_rfl)
instance : IsBuild Tryz.prog 28 [.bool false, .slice none 0 0, .slice none 0 0] [(0, 2), (2, 1)] := ⟨by kernel_rfl, rfl⟩
instance : IsField Tryz.prog 28 0 0 := isField_mk (by kernel_rfl)
instance : IsField Tryz.prog 28 1 2 := isField_mk (by kernel_rfl)
instance : HasSize Tryz.prog 28 3 := hasSize_mk (by kernel_rfl)
instance : IsZero Tryz.prog 28 [.bool false, .slice none 0 0, .slice none 0 0] := isZero_mk (b := 56) (by kernel_rfl) rfl
instance : IsElem Tryz.prog 28 [.bool false, .slice none 0 0, .slice none 0 0] 56 := isElem_mk (by kernel_rfl) rfl (by simp)
instance : IsAgg Tryz.prog 30 6 := isAgg_mk (by kernel_rfl)
instance : IsBuild Tryz.prog 30 [.bool false, .slice none 0 0, .slice none 0 0, .bool false, .slice none 0 0, .slice none 0 0] [(0, 3), (3, 3)] := ⟨by kernel_rfl, rfl⟩
instance : IsField Tryz.prog 30 0 0 := isField_mk (by kernel_rfl)
instance : IsField Tryz.prog 30 1 3 := isField_mk (by kernel_rfl)
instance : HasSize Tryz.prog 30 6 := hasSize_mk (by kernel_rfl)
instance : IsZero Tryz.prog 30 [.bool false, .slice none 0 0, .slice none 0 0, .bool false, .slice none 0 0, .slice none 0 0] := isZero_mk (b := 112) (by kernel_rfl) rfl
instance : IsElem Tryz.prog 30 [.bool false, .slice none 0 0, .slice none 0 0, .bool false, .slice none 0 0, .slice none 0 0] 112 := isElem_mk (by kernel_rfl) rfl (by simp)
instance : IsScalar Tryz.prog 39 := isScalar_mk (by kernel_rfl)
instance : IsSl Tryz.prog 39 3 1 := isSl_mk (by kernel_rfl) (by kernel_rfl)
instance : HasSize Tryz.prog 39 1 := hasSize_mk (by kernel_rfl)
instance : IsZero Tryz.prog 39 [.slice none 0 0] := isZero_mk (b := 24) (by kernel_rfl) rfl
instance : IsScalar Tryz.prog 44 := isScalar_mk (by kernel_rfl)
instance : HasSize Tryz.prog 44 1 := hasSize_mk (by kernel_rfl)
instance : IsZero Tryz.prog 44 [.nilFunc] := isZero_mk (b := 8) (by kernel_rfl) rfl
instance : IsScalar Tryz.prog 51 := isScalar_mk (by kernel_rfl)
instance : IsSl Tryz.prog 51 22 1 := isSl_mk (by kernel_rfl) (by kernel_rfl)
instance : HasSize Tryz.prog 51 1 := hasSize_mk (by kernel_rfl)
instance : IsScalar Tryz.prog 52 := isScalar_mk (by kernel_rfl)
instance : IsSl Tryz.prog 52 69 12 := isSl_mk (by kernel_rfl) (by kernel_rfl)
instance : HasSize Tryz.prog 52 1 := hasSize_mk (by kernel_rfl)
instance : IsAgg Tryz.prog 54 3 := isAgg_mk (by kernel_rfl)
instance : IsBuild Tryz.prog 54 [.slice none 0 0, .slice none 0 0, .slice none 0 0] [(0, 1), (1, 1), (2, 1)] := ⟨by kernel_rfl, rfl⟩
instance : IsField Tryz.prog 54 0 0 := isField_mk (by kernel_rfl)
instance : IsField Tryz.prog 54 1 1 := isField_mk (by kernel_rfl)
instance : IsField Tryz.prog 54 2 2 := isField_mk (by kernel_rfl)
instance : HasSize Tryz.prog 54 3 := hasSize_mk (by kernel_rfl)
instance : IsZero Tryz.prog 54 [.slice none 0 0, .slice none 0 0, .slice none 0 0] := isZero_mk (b := 72) (by kernel_rfl) rfl
instance : IsScalar Tryz.prog 55 := isScalar_mk (by kernel_rfl)
instance : HasSize Tryz.prog 55 1 := hasSize_mk (by kernel_rfl)
instance : IsBuild Tryz.prog 69 [.bool false, .slice none 0 0, .slice none 0 0, .bool false, .slice none 0 0, .slice none 0 0, .bool false, .slice none 0 0, .slice none 0 0, .bool false, .slice none 0 0, .slice none 0 0] [(0, 6), (6, 6)] := ⟨by kernel_rfl, rfl⟩
instance : IsField Tryz.prog 69 0 0 := isField_mk (by kernel_rfl)
instance : IsField Tryz.prog 69 1 6 := isField_mk (by kernel_rfl)
instance : IsZero Tryz.prog 69 [.bool false, .slice none 0 0, .slice none 0 0, .bool false, .slice none 0 0, .slice none 0 0, .bool false, .slice none 0 0, .slice none 0 0, .bool false, .slice none 0 0, .slice none 0 0] := isZero_mk (b := 224) (by kernel_rfl) rfl
instance : IsElem Tryz.prog 69 [.bool false, .slice none 0 0, .slice none 0 0, .bool false, .slice none 0 0, .slice none 0 0, .bool false, .slice none 0 0, .slice none 0 0, .bool false, .slice none 0 0, .slice none 0 0] 224 := isElem_mk (by kernel_rfl) rfl (by simp)
instance : IsAgg Tryz.prog 75 13 := isAgg_mk (by kernel_rfl)
instance : IsBuild Tryz.prog 75 [.int .i64 0, .bool false, .slice none 0 0, .slice none 0 0, .bool false, .slice none 0 0, .slice none 0 0, .bool false, .slice none 0 0, .slice none 0 0, .bool false, .slice none 0 0, .slice none 0 0] [(0, 1), (1, 6), (7, 6)] := ⟨by kernel_rfl, rfl⟩
instance : IsField Tryz.prog 75 0 0 := isField_mk (by kernel_rfl)
instance : IsField Tryz.prog 75 1 1 := isField_mk (by kernel_rfl)
instance : IsField Tryz.prog 75 2 7 := isField_mk (by kernel_rfl)
instance : HasSize Tryz.prog 75 13 := hasSize_mk (by kernel_rfl)
instance : IsZero Tryz.prog 75 [.int .i64 0, .bool false, .slice none 0 0, .slice none 0 0, .bool false, .slice none 0 0, .slice none 0 0, .bool false, .slice none 0 0, .slice none 0 0, .bool false, .slice none 0 0, .slice none 0 0] := isZero_mk (b := 232) (by kernel_rfl) rfl
instance : IsScalar Tryz.prog 76 := isScalar_mk (by kernel_rfl)
instance : IsAgg Tryz.prog 79 13 := isAgg_mk (by kernel_rfl)
instance : IsBuild Tryz.prog 79 [.int .i8 0, .bool false, .slice none 0 0, .slice none 0 0, .bool false, .slice none 0 0, .slice none 0 0, .bool false, .slice none 0 0, .slice none 0 0, .bool false, .slice none 0 0, .slice none 0 0] [(0, 1), (1, 6), (7, 6)] := ⟨by kernel_rfl, rfl⟩
instance : IsField Tryz.prog 79 0 0 := isField_mk (by kernel_rfl)
instance : HasSize Tryz.prog 79 13 := hasSize_mk (by kernel_rfl)
instance : IsZero Tryz.prog 79 [.int .i8 0, .bool false, .slice none 0 0, .slice none 0 0, .bool false, .slice none 0 0, .slice none 0 0, .bool false, .slice none 0 0, .slice none 0 0, .bool false, .slice none 0 0, .slice none 0 0] := isZero_mk (b := 232) (by kernel_rfl) rfl
instance : IsScalar Tryz.prog 81 := isScalar_mk (by kernel_rfl)
instance : IsScalar Tryz.prog 86 := isScalar_mk (by kernel_rfl)
instance : IsSl Tryz.prog 86 28 3 := isSl_mk (by kernel_rfl) (by kernel_rfl)
instance : IsScalar Tryz.prog 93 := isScalar_mk (by kernel_rfl)
instance : IsInt Tryz.prog 93 .u32 := ⟨by kernel_rfl⟩
instance : HasTy Tryz.prog 93 := ⟨by kernel_rfl⟩
instance : HasSize Tryz.prog 93 1 := hasSize_mk (by kernel_rfl)
instance : IsZero Tryz.prog 93 [.int .u32 0] := isZero_mk (b := 4) (by kernel_rfl) rfl
instance : IsElem Tryz.prog 93 [.int .u32 0] 4 := isElem_mk (by kernel_rfl) rfl (by simp)
instance : IsAgg Tryz.prog 97 3 := isAgg_mk (by kernel_rfl)
instance : IsBuild Tryz.prog 97 [.nilFunc, .nilFunc, .nilFunc] [(0, 1), (1, 1), (2, 1)] := ⟨by kernel_rfl, rfl⟩
instance : HasSize Tryz.prog 97 3 := hasSize_mk (by kernel_rfl)
instance : IsZero Tryz.prog 97 [.nilFunc, .nilFunc, .nilFunc] := isZero_mk (b := 24) (by kernel_rfl) rfl
instance : IsScalar Tryz.prog 101 := isScalar_mk (by kernel_rfl)
instance : IsScalar Tryz.prog 102 := isScalar_mk (by kernel_rfl)
instance : IsSl Tryz.prog 102 9 1 := isSl_mk (by kernel_rfl) (by kernel_rfl)
instance : HasSize Tryz.prog 102 1 := hasSize_mk (by kernel_rfl)
instance : IsZero Tryz.prog 102 [.slice none 0 0] := isZero_mk (b := 24) (by kernel_rfl) rfl
instance : IsScalar Tryz.prog 116 := isScalar_mk (by kernel_rfl)
instance : IsAgg Tryz.prog 122 12 := isAgg_mk (by kernel_rfl)
instance : IsBuild Tryz.prog 122 [.bool false, .slice none 0 0, .slice none 0 0, .bool false, .slice none 0 0, .slice none 0 0, .bool false, .slice none 0 0, .slice none 0 0, .bool false, .slice none 0 0, .slice none 0 0] [(0, 6), (6, 6)] := ⟨by kernel_rfl, rfl⟩
instance : IsField Tryz.prog 122 0 0 := isField_mk (by kernel_rfl)
instance : IsField Tryz.prog 122 1 6 := isField_mk (by kernel_rfl)
instance : HasSize Tryz.prog 122 12 := hasSize_mk (by kernel_rfl)
instance : IsZero Tryz.prog 122 [.bool false, .slice none 0 0, .slice none 0 0, .bool false, .slice none 0 0, .slice none 0 0, .bool false, .slice none 0 0, .slice none 0 0, .bool false, .slice none 0 0, .slice none 0 0] := isZero_mk (b := 224) (by kernel_rfl) rfl
instance : IsScalar Tryz.prog 125 := isScalar_mk (by kernel_rfl)
instance : HasSize Tryz.prog 125 1 := hasSize_mk (by kernel_rfl)
instance : IsZero Tryz.prog 125 [.pointer none] := isZero_mk (b := 8) (by kernel_rfl) rfl
instance : IsBuild Tryz.prog 127 [.bool false, .slice none 0 0, .slice none 0 0] [(0, 3)] := ⟨by kernel_rfl, rfl⟩
instance : IsField Tryz.prog 127 0 0 := isField_mk (by kernel_rfl)
instance : IsAgg Tryz.prog 137 18 := isAgg_mk (by kernel_rfl)
instance : IsBuild Tryz.prog 137 [.bool false, .slice none 0 0, .slice none 0 0, .bool false, .slice none 0 0, .slice none 0 0, .bool false, .slice none 0 0, .slice none 0 0, .bool false, .slice none 0 0, .slice none 0 0, .bool false, .slice none 0 0, .slice none 0 0, .bool false, .slice none 0 0, .slice none 0 0] [(0, 6), (6, 6), (12, 6)] := ⟨by kernel_rfl, rfl⟩
instance : IsField Tryz.prog 137 0 0 := isField_mk (by kernel_rfl)
instance : IsField Tryz.prog 137 1 6 := isField_mk (by kernel_rfl)
instance : IsField Tryz.prog 137 2 12 := isField_mk (by kernel_rfl)
instance : HasSize Tryz.prog 137 18 := hasSize_mk (by kernel_rfl)
instance : IsZero Tryz.prog 137 [.bool false, .slice none 0 0, .slice none 0 0, .bool false, .slice none 0 0, .slice none 0 0, .bool false, .slice none 0 0, .slice none 0 0, .bool false, .slice none 0 0, .slice none 0 0, .bool false, .slice none 0 0, .slice none 0 0, .bool false, .slice none 0 0, .slice none 0 0] := isZero_mk (b := 336) (by kernel_rfl) rfl
instance : IsScalar Tryz.prog 142 := isScalar_mk (by kernel_rfl)
instance : IsSl Tryz.prog 142 26 2 := isSl_mk (by kernel_rfl) (by kernel_rfl)
instance : IsScalar Tryz.prog 143 := isScalar_mk (by kernel_rfl)
instance : HasSize Tryz.prog 143 1 := hasSize_mk (by kernel_rfl)
instance : IsZero Tryz.prog 143 [.nilFunc] := isZero_mk (b := 8) (by kernel_rfl) rfl
instance : IsScalar Tryz.prog 145 := isScalar_mk (by kernel_rfl)
instance : IsInt Tryz.prog 145 .u64 := ⟨by kernel_rfl⟩
instance : HasTy Tryz.prog 145 := ⟨by kernel_rfl⟩
instance : HasSize Tryz.prog 145 1 := hasSize_mk (by kernel_rfl)
instance : IsZero Tryz.prog 145 [.int .u64 0] := isZero_mk (b := 8) (by kernel_rfl) rfl
instance : IsBuild Tryz.prog 148 [.slice none 0 0, .slice none 0 0, .slice none 0 0, .int .i64 0] [(0, 3), (3, 1)] := ⟨by kernel_rfl, rfl⟩
instance : IsField Tryz.prog 148 0 0 := isField_mk (by kernel_rfl)
instance : IsField Tryz.prog 148 1 3 := isField_mk (by kernel_rfl)
instance : IsScalar Tryz.prog 172 := isScalar_mk (by kernel_rfl)
instance : HasSize Tryz.prog 172 1 := hasSize_mk (by kernel_rfl)
instance : IsZero Tryz.prog 172 [.pointer none] := isZero_mk (b := 8) (by kernel_rfl) rfl
instance : IsInt Tryz.prog 174 .u64 := ⟨by kernel_rfl⟩
instance : IsBuild Tryz.prog 201 [.bool false, .slice none 0 0] [(0, 2)] := ⟨by kernel_rfl, rfl⟩
instance : IsField Tryz.prog 201 0 0 := isField_mk (by kernel_rfl)
instance : IsBuild Tryz.prog 208 [.int .i64 0, .int .i64 0, .int .i64 0] [(0, 1), (1, 1), (2, 1)] := ⟨by kernel_rfl, rfl⟩
instance : IsArr Tryz.prog 208 3 1 := ⟨3, by kernel_rfl, by kernel_rfl⟩
instance : HasSize Tryz.prog 208 3 := hasSize_mk (by kernel_rfl)
instance : IsZero Tryz.prog 208 [.int .i64 0, .int .i64 0, .int .i64 0] := isZero_mk (b := 24) (by kernel_rfl) rfl
instance : IsSl Tryz.prog 214 24 1 := isSl_mk (by kernel_rfl) (by kernel_rfl)
instance : IsScalar Tryz.prog 238 := isScalar_mk (by kernel_rfl)
instance : IsBuild Tryz.prog 240 [.slice none 0 0, .slice none 0 0] [(0, 1), (1, 1)] := ⟨by kernel_rfl, rfl⟩
instance : IsField Tryz.prog 240 0 0 := isField_mk (by kernel_rfl)
instance : IsField Tryz.prog 240 1 1 := isField_mk (by kernel_rfl)
instance : IsArr Tryz.prog 246 64 1 := ⟨5, by kernel_rfl, by kernel_rfl⟩
end Go.Proofs
