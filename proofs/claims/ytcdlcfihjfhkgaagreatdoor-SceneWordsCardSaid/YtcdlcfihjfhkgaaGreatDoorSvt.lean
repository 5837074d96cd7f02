/- The facts on the types of this translation, each by the kernel. Written by gentypes.py. -/
import Derived.Test.YtcdlcfihjfhkgaaGreatDoorSvv
import Derived.Test.YtcdlcfihjfhkgaaGreatDoorProg
import Derived.KernelRfl
namespace Go.Proofs
open Go Go.Sv
instance : Mixed Tryz.prog := ⟨by kernel_rfl⟩
instance : IsScalar Tryz.prog 1 := isScalar_mk (by kernel_rfl)
instance : HasSize Tryz.prog 1 1 := hasSize_mk (by kernel_rfl)
instance : IsZero Tryz.prog 1 [.nilFunc] := isZero_mk (b := 8) (by kernel_rfl) rfl
instance : IsElem Tryz.prog 1 [.nilFunc] 8 := isElem_mk (by kernel_rfl) rfl (by simp)
instance : IsScalar Tryz.prog 2 := isScalar_mk (by kernel_rfl)
instance : IsInt Tryz.prog 2 .i64 := ⟨by kernel_rfl⟩
instance : HasTy Tryz.prog 2 := ⟨by kernel_rfl⟩
instance : HasSize Tryz.prog 2 1 := hasSize_mk (by kernel_rfl)
instance : IsZero Tryz.prog 2 [.int .i64 0] := isZero_mk (b := 8) (by kernel_rfl) rfl
instance : IsElem Tryz.prog 2 [.int .i64 0] 8 := isElem_mk (by kernel_rfl) rfl (by simp)
instance : IsScalar Tryz.prog 3 := isScalar_mk (by kernel_rfl)
instance : IsInt Tryz.prog 3 .i64 := ⟨by kernel_rfl⟩
instance : HasTy Tryz.prog 3 := ⟨by kernel_rfl⟩
instance : HasSize Tryz.prog 3 1 := hasSize_mk (by kernel_rfl)
instance : IsZero Tryz.prog 3 [.int .i64 0] := isZero_mk (b := 8) (by kernel_rfl) rfl
instance : IsElem Tryz.prog 3 [.int .i64 0] 8 := isElem_mk (by kernel_rfl) rfl (by simp)
instance : IsScalar Tryz.prog 4 := isScalar_mk (by kernel_rfl)
theorem Tryz.isBool4 : Tryz.prog.underlying 4 = some .bool := by kernel_rfl
instance : HasSize Tryz.prog 4 1 := hasSize_mk (by kernel_rfl)
instance : IsZero Tryz.prog 4 [.bool false] := isZero_mk (b := 1) (by kernel_rfl) rfl
instance : IsElem Tryz.prog 4 [.bool false] 1 := isElem_mk (by kernel_rfl) rfl (by simp)
instance : IsScalar Tryz.prog 5 := isScalar_mk (by kernel_rfl)
instance : IsInt Tryz.prog 5 .u8 := ⟨by kernel_rfl⟩
instance : HasTy Tryz.prog 5 := ⟨by kernel_rfl⟩
instance : HasSize Tryz.prog 5 1 := hasSize_mk (by kernel_rfl)
instance : IsZero Tryz.prog 5 [.int .u8 0] := isZero_mk (b := 1) (by kernel_rfl) rfl
instance : IsElem Tryz.prog 5 [.int .u8 0] 1 := isElem_mk (by kernel_rfl) rfl (by simp)
instance : IsScalar Tryz.prog 9 := isScalar_mk (by kernel_rfl)
instance : IsStr Tryz.prog 9 := ⟨by kernel_rfl⟩
instance : HasSize Tryz.prog 9 1 := hasSize_mk (by kernel_rfl)
instance : IsZero Tryz.prog 9 [.string ⟨#[]⟩] := isZero_mk (b := 16) (by kernel_rfl) rfl
instance : IsElem Tryz.prog 9 [.string ⟨#[]⟩] 16 := isElem_mk (by kernel_rfl) rfl (by simp)
instance : IsScalar Tryz.prog 12 := isScalar_mk (by kernel_rfl)
instance : IsInt Tryz.prog 12 .u64 := ⟨by kernel_rfl⟩
instance : HasTy Tryz.prog 12 := ⟨by kernel_rfl⟩
instance : HasSize Tryz.prog 12 1 := hasSize_mk (by kernel_rfl)
instance : IsZero Tryz.prog 12 [.int .u64 0] := isZero_mk (b := 8) (by kernel_rfl) rfl
instance : IsElem Tryz.prog 12 [.int .u64 0] 8 := isElem_mk (by kernel_rfl) rfl (by simp)
instance : IsAgg Tryz.prog 13 2 := isAgg_mk (by kernel_rfl)
instance : IsBuild Tryz.prog 13 [.string ⟨#[]⟩, .int .u64 0] [(0, 1), (1, 1)] := ⟨by kernel_rfl, rfl⟩
instance : IsField Tryz.prog 13 0 0 := isField_mk (by kernel_rfl)
instance : IsField Tryz.prog 13 1 1 := isField_mk (by kernel_rfl)
instance : HasSize Tryz.prog 13 2 := hasSize_mk (by kernel_rfl)
instance : IsZero Tryz.prog 13 [.string ⟨#[]⟩, .int .u64 0] := isZero_mk (b := 24) (by kernel_rfl) rfl
instance : IsElem Tryz.prog 13 [.string ⟨#[]⟩, .int .u64 0] 24 := isElem_mk (by kernel_rfl) rfl (by simp)
instance : IsScalar Tryz.prog 21 := isScalar_mk (by kernel_rfl)
instance : IsInt Tryz.prog 21 .i32 := ⟨by kernel_rfl⟩
instance : HasTy Tryz.prog 21 := ⟨by kernel_rfl⟩
instance : HasSize Tryz.prog 21 1 := hasSize_mk (by kernel_rfl)
instance : IsZero Tryz.prog 21 [.int .i32 0] := isZero_mk (b := 4) (by kernel_rfl) rfl
instance : IsElem Tryz.prog 21 [.int .i32 0] 4 := isElem_mk (by kernel_rfl) rfl (by simp)
instance : IsScalar Tryz.prog 22 := isScalar_mk (by kernel_rfl)
instance : IsSl Tryz.prog 22 44 1 := isSl_mk (by kernel_rfl) (by kernel_rfl)
instance : HasSize Tryz.prog 22 1 := hasSize_mk (by kernel_rfl)
instance : IsZero Tryz.prog 22 [.slice none 0 0] := isZero_mk (b := 24) (by kernel_rfl) rfl
instance : IsElem Tryz.prog 22 [.slice none 0 0] 24 := isElem_mk (by kernel_rfl) rfl (by simp)
instance : IsScalar Tryz.prog 23 := isScalar_mk (by kernel_rfl)
instance : IsSl Tryz.prog 23 44 1 := isSl_mk (by kernel_rfl) (by kernel_rfl)
instance : HasSize Tryz.prog 23 1 := hasSize_mk (by kernel_rfl)
instance : IsZero Tryz.prog 23 [.slice none 0 0] := isZero_mk (b := 24) (by kernel_rfl) rfl
instance : IsElem Tryz.prog 23 [.slice none 0 0] 24 := isElem_mk (by kernel_rfl) rfl (by simp)
instance : IsAgg Tryz.prog 24 2 := isAgg_mk (by kernel_rfl)
instance : IsBuild Tryz.prog 24 [.bool false, .slice none 0 0] [(0, 1), (1, 1)] := ⟨by kernel_rfl, rfl⟩
instance : IsField Tryz.prog 24 0 0 := isField_mk (by kernel_rfl)
instance : IsField Tryz.prog 24 1 1 := isField_mk (by kernel_rfl)
instance : HasSize Tryz.prog 24 2 := hasSize_mk (by kernel_rfl)
instance : IsZero Tryz.prog 24 [.bool false, .slice none 0 0] := isZero_mk (b := 32) (by kernel_rfl) rfl
instance : IsElem Tryz.prog 24 [.bool false, .slice none 0 0] 32 := isElem_mk (by kernel_rfl) rfl (by simp)
instance : IsAgg Tryz.prog 25 2 := isAgg_mk (by kernel_rfl)
instance : IsBuild Tryz.prog 25 [.bool false, .slice none 0 0] [(0, 1), (1, 1)] := ⟨by kernel_rfl, rfl⟩
instance : IsField Tryz.prog 25 0 0 := isField_mk (by kernel_rfl)
instance : IsField Tryz.prog 25 1 1 := isField_mk (by kernel_rfl)
instance : HasSize Tryz.prog 25 2 := hasSize_mk (by kernel_rfl)
instance : IsZero Tryz.prog 25 [.bool false, .slice none 0 0] := isZero_mk (b := 32) (by kernel_rfl) rfl
instance : IsElem Tryz.prog 25 [.bool false, .slice none 0 0] 32 := isElem_mk (by kernel_rfl) rfl (by simp)
instance : IsAgg Tryz.prog 26 3 := isAgg_mk (by kernel_rfl)
instance : IsBuild Tryz.prog 26 [.bool false, .slice none 0 0, .slice none 0 0] [(0, 2), (2, 1)] := ⟨by kernel_rfl, rfl⟩
instance : IsField Tryz.prog 26 0 0 := isField_mk (by kernel_rfl)
instance : IsField Tryz.prog 26 1 2 := isField_mk (by kernel_rfl)
instance : HasSize Tryz.prog 26 3 := hasSize_mk (by kernel_rfl)
instance : IsZero Tryz.prog 26 [.bool false, .slice none 0 0, .slice none 0 0] := isZero_mk (b := 56) (by kernel_rfl) rfl
instance : IsElem Tryz.prog 26 [.bool false, .slice none 0 0, .slice none 0 0] 56 := isElem_mk (by kernel_rfl) rfl (by simp)
instance : IsAgg Tryz.prog 27 3 := isAgg_mk (by kernel_rfl)
instance : IsBuild Tryz.prog 27 [.bool false, .slice none 0 0, .slice none 0 0] [(0, 2), (2, 1)] := ⟨by kernel_rfl, rfl⟩
instance : IsField Tryz.prog 27 0 0 := isField_mk (by kernel_rfl)
instance : IsField Tryz.prog 27 1 2 := isField_mk (by kernel_rfl)
instance : HasSize Tryz.prog 27 3 := hasSize_mk (by kernel_rfl)
instance : IsZero Tryz.prog 27 [.bool false, .slice none 0 0, .slice none 0 0] := isZero_mk (b := 56) (by kernel_rfl) rfl
instance : IsElem Tryz.prog 27 [.bool false, .slice none 0 0, .slice none 0 0] 56 := isElem_mk (by kernel_rfl) rfl (by simp)
instance : IsScalar Tryz.prog 28 := isScalar_mk (by kernel_rfl)
instance : IsSl Tryz.prog 28 9 1 := isSl_mk (by kernel_rfl) (by kernel_rfl)
instance : HasSize Tryz.prog 28 1 := hasSize_mk (by kernel_rfl)
instance : IsZero Tryz.prog 28 [.slice none 0 0] := isZero_mk (b := 24) (by kernel_rfl) rfl
instance : IsElem Tryz.prog 28 [.slice none 0 0] 24 := isElem_mk (by kernel_rfl) rfl (by simp)
instance : IsScalar Tryz.prog 29 := isScalar_mk (by kernel_rfl)
instance : HasSize Tryz.prog 29 1 := hasSize_mk (by kernel_rfl)
instance : IsZero Tryz.prog 29 [.nilFunc] := isZero_mk (b := 8) (by kernel_rfl) rfl
instance : IsElem Tryz.prog 29 [.nilFunc] 8 := isElem_mk (by kernel_rfl) rfl (by simp)
instance : IsScalar Tryz.prog 30 := isScalar_mk (by kernel_rfl)
instance : HasSize Tryz.prog 30 1 := hasSize_mk (by kernel_rfl)
instance : IsZero Tryz.prog 30 [.nilFunc] := isZero_mk (b := 8) (by kernel_rfl) rfl
instance : IsElem Tryz.prog 30 [.nilFunc] 8 := isElem_mk (by kernel_rfl) rfl (by simp)
instance : IsScalar Tryz.prog 31 := isScalar_mk (by kernel_rfl)
instance : IsInt Tryz.prog 31 .i64 := ⟨by kernel_rfl⟩
instance : HasTy Tryz.prog 31 := ⟨by kernel_rfl⟩
instance : HasSize Tryz.prog 31 1 := hasSize_mk (by kernel_rfl)
instance : IsZero Tryz.prog 31 [.int .i64 0] := isZero_mk (b := 8) (by kernel_rfl) rfl
instance : IsElem Tryz.prog 31 [.int .i64 0] 8 := isElem_mk (by kernel_rfl) rfl (by simp)
instance : IsScalar Tryz.prog 33 := isScalar_mk (by kernel_rfl)
instance : HasSize Tryz.prog 33 1 := hasSize_mk (by kernel_rfl)
instance : IsZero Tryz.prog 33 [.nilFunc] := isZero_mk (b := 8) (by kernel_rfl) rfl
instance : IsElem Tryz.prog 33 [.nilFunc] 8 := isElem_mk (by kernel_rfl) rfl (by simp)
instance : IsScalar Tryz.prog 34 := isScalar_mk (by kernel_rfl)
instance : HasSize Tryz.prog 34 1 := hasSize_mk (by kernel_rfl)
instance : IsZero Tryz.prog 34 [.nilFunc] := isZero_mk (b := 8) (by kernel_rfl) rfl
instance : IsElem Tryz.prog 34 [.nilFunc] 8 := isElem_mk (by kernel_rfl) rfl (by simp)
instance : IsScalar Tryz.prog 36 := isScalar_mk (by kernel_rfl)
instance : HasSize Tryz.prog 36 1 := hasSize_mk (by kernel_rfl)
instance : IsZero Tryz.prog 36 [.nilFunc] := isZero_mk (b := 8) (by kernel_rfl) rfl
instance : IsElem Tryz.prog 36 [.nilFunc] 8 := isElem_mk (by kernel_rfl) rfl (by simp)
instance : IsScalar Tryz.prog 37 := isScalar_mk (by kernel_rfl)
instance : HasSize Tryz.prog 37 1 := hasSize_mk (by kernel_rfl)
instance : IsZero Tryz.prog 37 [.nilFunc] := isZero_mk (b := 8) (by kernel_rfl) rfl
instance : IsElem Tryz.prog 37 [.nilFunc] 8 := isElem_mk (by kernel_rfl) rfl (by simp)
instance : IsScalar Tryz.prog 38 := isScalar_mk (by kernel_rfl)
instance : HasSize Tryz.prog 38 1 := hasSize_mk (by kernel_rfl)
instance : IsZero Tryz.prog 38 [.nilFunc] := isZero_mk (b := 8) (by kernel_rfl) rfl
instance : IsElem Tryz.prog 38 [.nilFunc] 8 := isElem_mk (by kernel_rfl) rfl (by simp)
instance : IsScalar Tryz.prog 39 := isScalar_mk (by kernel_rfl)
instance : HasSize Tryz.prog 39 1 := hasSize_mk (by kernel_rfl)
instance : IsZero Tryz.prog 39 [.nilFunc] := isZero_mk (b := 8) (by kernel_rfl) rfl
instance : IsElem Tryz.prog 39 [.nilFunc] 8 := isElem_mk (by kernel_rfl) rfl (by simp)
instance : IsScalar Tryz.prog 40 := isScalar_mk (by kernel_rfl)
instance : HasSize Tryz.prog 40 1 := hasSize_mk (by kernel_rfl)
instance : IsZero Tryz.prog 40 [.nilFunc] := isZero_mk (b := 8) (by kernel_rfl) rfl
instance : IsElem Tryz.prog 40 [.nilFunc] 8 := isElem_mk (by kernel_rfl) rfl (by simp)
instance : IsScalar Tryz.prog 41 := isScalar_mk (by kernel_rfl)
instance : HasSize Tryz.prog 41 1 := hasSize_mk (by kernel_rfl)
instance : IsZero Tryz.prog 41 [.nilFunc] := isZero_mk (b := 8) (by kernel_rfl) rfl
instance : IsElem Tryz.prog 41 [.nilFunc] 8 := isElem_mk (by kernel_rfl) rfl (by simp)
instance : IsScalar Tryz.prog 42 := isScalar_mk (by kernel_rfl)
instance : HasSize Tryz.prog 42 1 := hasSize_mk (by kernel_rfl)
instance : IsZero Tryz.prog 42 [.nilFunc] := isZero_mk (b := 8) (by kernel_rfl) rfl
instance : IsElem Tryz.prog 42 [.nilFunc] 8 := isElem_mk (by kernel_rfl) rfl (by simp)
instance : IsScalar Tryz.prog 43 := isScalar_mk (by kernel_rfl)
instance : HasSize Tryz.prog 43 1 := hasSize_mk (by kernel_rfl)
instance : IsZero Tryz.prog 43 [.nilFunc] := isZero_mk (b := 8) (by kernel_rfl) rfl
instance : IsElem Tryz.prog 43 [.nilFunc] 8 := isElem_mk (by kernel_rfl) rfl (by simp)
instance : IsScalar Tryz.prog 44 := isScalar_mk (by kernel_rfl)
instance : IsInt Tryz.prog 44 .u32 := ⟨by kernel_rfl⟩
instance : HasTy Tryz.prog 44 := ⟨by kernel_rfl⟩
instance : HasSize Tryz.prog 44 1 := hasSize_mk (by kernel_rfl)
instance : IsZero Tryz.prog 44 [.int .u32 0] := isZero_mk (b := 4) (by kernel_rfl) rfl
instance : IsElem Tryz.prog 44 [.int .u32 0] 4 := isElem_mk (by kernel_rfl) rfl (by simp)
instance : IsScalar Tryz.prog 46 := isScalar_mk (by kernel_rfl)
instance : HasSize Tryz.prog 46 1 := hasSize_mk (by kernel_rfl)
instance : IsZero Tryz.prog 46 [.nilFunc] := isZero_mk (b := 8) (by kernel_rfl) rfl
instance : IsElem Tryz.prog 46 [.nilFunc] 8 := isElem_mk (by kernel_rfl) rfl (by simp)
instance : IsScalar Tryz.prog 47 := isScalar_mk (by kernel_rfl)
instance : HasSize Tryz.prog 47 1 := hasSize_mk (by kernel_rfl)
instance : IsZero Tryz.prog 47 [.nilFunc] := isZero_mk (b := 8) (by kernel_rfl) rfl
instance : IsElem Tryz.prog 47 [.nilFunc] 8 := isElem_mk (by kernel_rfl) rfl (by simp)
instance : IsScalar Tryz.prog 48 := isScalar_mk (by kernel_rfl)
instance : HasSize Tryz.prog 48 1 := hasSize_mk (by kernel_rfl)
instance : IsZero Tryz.prog 48 [.nilFunc] := isZero_mk (b := 8) (by kernel_rfl) rfl
instance : IsElem Tryz.prog 48 [.nilFunc] 8 := isElem_mk (by kernel_rfl) rfl (by simp)
instance : IsScalar Tryz.prog 49 := isScalar_mk (by kernel_rfl)
instance : HasSize Tryz.prog 49 1 := hasSize_mk (by kernel_rfl)
instance : IsZero Tryz.prog 49 [.nilFunc] := isZero_mk (b := 8) (by kernel_rfl) rfl
instance : IsElem Tryz.prog 49 [.nilFunc] 8 := isElem_mk (by kernel_rfl) rfl (by simp)
instance : IsScalar Tryz.prog 50 := isScalar_mk (by kernel_rfl)
instance : IsInt Tryz.prog 50 .u64 := ⟨by kernel_rfl⟩
instance : HasTy Tryz.prog 50 := ⟨by kernel_rfl⟩
instance : HasSize Tryz.prog 50 1 := hasSize_mk (by kernel_rfl)
instance : IsZero Tryz.prog 50 [.int .u64 0] := isZero_mk (b := 8) (by kernel_rfl) rfl
instance : IsElem Tryz.prog 50 [.int .u64 0] 8 := isElem_mk (by kernel_rfl) rfl (by simp)
instance : IsScalar Tryz.prog 51 := isScalar_mk (by kernel_rfl)
instance : HasSize Tryz.prog 51 1 := hasSize_mk (by kernel_rfl)
instance : IsZero Tryz.prog 51 [.nilFunc] := isZero_mk (b := 8) (by kernel_rfl) rfl
instance : IsElem Tryz.prog 51 [.nilFunc] 8 := isElem_mk (by kernel_rfl) rfl (by simp)
instance : IsScalar Tryz.prog 52 := isScalar_mk (by kernel_rfl)
instance : HasSize Tryz.prog 52 1 := hasSize_mk (by kernel_rfl)
instance : IsZero Tryz.prog 52 [.nilFunc] := isZero_mk (b := 8) (by kernel_rfl) rfl
instance : IsElem Tryz.prog 52 [.nilFunc] 8 := isElem_mk (by kernel_rfl) rfl (by simp)
instance : IsScalar Tryz.prog 53 := isScalar_mk (by kernel_rfl)
instance : IsSl Tryz.prog 53 68 6 := isSl_mk (by kernel_rfl) (by kernel_rfl)
instance : HasSize Tryz.prog 53 1 := hasSize_mk (by kernel_rfl)
instance : IsZero Tryz.prog 53 [.slice none 0 0] := isZero_mk (b := 24) (by kernel_rfl) rfl
instance : IsElem Tryz.prog 53 [.slice none 0 0] 24 := isElem_mk (by kernel_rfl) rfl (by simp)
instance : IsScalar Tryz.prog 54 := isScalar_mk (by kernel_rfl)
instance : IsSl Tryz.prog 54 53 1 := isSl_mk (by kernel_rfl) (by kernel_rfl)
instance : HasSize Tryz.prog 54 1 := hasSize_mk (by kernel_rfl)
instance : IsZero Tryz.prog 54 [.slice none 0 0] := isZero_mk (b := 24) (by kernel_rfl) rfl
instance : IsElem Tryz.prog 54 [.slice none 0 0] 24 := isElem_mk (by kernel_rfl) rfl (by simp)
instance : IsScalar Tryz.prog 55 := isScalar_mk (by kernel_rfl)
instance : IsSl Tryz.prog 55 107 12 := isSl_mk (by kernel_rfl) (by kernel_rfl)
instance : HasSize Tryz.prog 55 1 := hasSize_mk (by kernel_rfl)
instance : IsZero Tryz.prog 55 [.slice none 0 0] := isZero_mk (b := 24) (by kernel_rfl) rfl
instance : IsElem Tryz.prog 55 [.slice none 0 0] 24 := isElem_mk (by kernel_rfl) rfl (by simp)
instance : IsAgg Tryz.prog 56 3 := isAgg_mk (by kernel_rfl)
instance : IsBuild Tryz.prog 56 [.slice none 0 0, .slice none 0 0, .slice none 0 0] [(0, 1), (1, 1), (2, 1)] := ⟨by kernel_rfl, rfl⟩
instance : IsField Tryz.prog 56 0 0 := isField_mk (by kernel_rfl)
instance : IsField Tryz.prog 56 1 1 := isField_mk (by kernel_rfl)
instance : IsField Tryz.prog 56 2 2 := isField_mk (by kernel_rfl)
instance : HasSize Tryz.prog 56 3 := hasSize_mk (by kernel_rfl)
instance : IsZero Tryz.prog 56 [.slice none 0 0, .slice none 0 0, .slice none 0 0] := isZero_mk (b := 72) (by kernel_rfl) rfl
instance : IsElem Tryz.prog 56 [.slice none 0 0, .slice none 0 0, .slice none 0 0] 72 := isElem_mk (by kernel_rfl) rfl (by simp)
instance : IsAgg Tryz.prog 57 3 := isAgg_mk (by kernel_rfl)
instance : IsBuild Tryz.prog 57 [.slice none 0 0, .slice none 0 0, .slice none 0 0] [(0, 1), (1, 1), (2, 1)] := ⟨by kernel_rfl, rfl⟩
instance : IsField Tryz.prog 57 0 0 := isField_mk (by kernel_rfl)
instance : IsField Tryz.prog 57 1 1 := isField_mk (by kernel_rfl)
instance : IsField Tryz.prog 57 2 2 := isField_mk (by kernel_rfl)
instance : HasSize Tryz.prog 57 3 := hasSize_mk (by kernel_rfl)
instance : IsZero Tryz.prog 57 [.slice none 0 0, .slice none 0 0, .slice none 0 0] := isZero_mk (b := 72) (by kernel_rfl) rfl
instance : IsElem Tryz.prog 57 [.slice none 0 0, .slice none 0 0, .slice none 0 0] 72 := isElem_mk (by kernel_rfl) rfl (by simp)
instance : IsScalar Tryz.prog 58 := isScalar_mk (by kernel_rfl)
instance : HasSize Tryz.prog 58 1 := hasSize_mk (by kernel_rfl)
instance : IsZero Tryz.prog 58 [.nilFunc] := isZero_mk (b := 8) (by kernel_rfl) rfl
instance : IsElem Tryz.prog 58 [.nilFunc] 8 := isElem_mk (by kernel_rfl) rfl (by simp)
instance : IsScalar Tryz.prog 59 := isScalar_mk (by kernel_rfl)
instance : HasSize Tryz.prog 59 1 := hasSize_mk (by kernel_rfl)
instance : IsZero Tryz.prog 59 [.nilFunc] := isZero_mk (b := 8) (by kernel_rfl) rfl
instance : IsElem Tryz.prog 59 [.nilFunc] 8 := isElem_mk (by kernel_rfl) rfl (by simp)
instance : IsScalar Tryz.prog 60 := isScalar_mk (by kernel_rfl)
instance : HasSize Tryz.prog 60 1 := hasSize_mk (by kernel_rfl)
instance : IsZero Tryz.prog 60 [.nilFunc] := isZero_mk (b := 8) (by kernel_rfl) rfl
instance : IsElem Tryz.prog 60 [.nilFunc] 8 := isElem_mk (by kernel_rfl) rfl (by simp)
instance : IsScalar Tryz.prog 62 := isScalar_mk (by kernel_rfl)
instance : HasSize Tryz.prog 62 1 := hasSize_mk (by kernel_rfl)
instance : IsZero Tryz.prog 62 [.nilFunc] := isZero_mk (b := 8) (by kernel_rfl) rfl
instance : IsElem Tryz.prog 62 [.nilFunc] 8 := isElem_mk (by kernel_rfl) rfl (by simp)
instance : IsScalar Tryz.prog 63 := isScalar_mk (by kernel_rfl)
instance : HasSize Tryz.prog 63 1 := hasSize_mk (by kernel_rfl)
instance : IsZero Tryz.prog 63 [.nilFunc] := isZero_mk (b := 8) (by kernel_rfl) rfl
instance : IsElem Tryz.prog 63 [.nilFunc] 8 := isElem_mk (by kernel_rfl) rfl (by simp)
instance : IsScalar Tryz.prog 64 := isScalar_mk (by kernel_rfl)
instance : HasSize Tryz.prog 64 1 := hasSize_mk (by kernel_rfl)
instance : IsZero Tryz.prog 64 [.nilFunc] := isZero_mk (b := 8) (by kernel_rfl) rfl
instance : IsElem Tryz.prog 64 [.nilFunc] 8 := isElem_mk (by kernel_rfl) rfl (by simp)
instance : IsScalar Tryz.prog 65 := isScalar_mk (by kernel_rfl)
instance : HasSize Tryz.prog 65 1 := hasSize_mk (by kernel_rfl)
instance : IsZero Tryz.prog 65 [.nilFunc] := isZero_mk (b := 8) (by kernel_rfl) rfl
instance : IsElem Tryz.prog 65 [.nilFunc] 8 := isElem_mk (by kernel_rfl) rfl (by simp)
instance : IsScalar Tryz.prog 66 := isScalar_mk (by kernel_rfl)
instance : HasSize Tryz.prog 66 1 := hasSize_mk (by kernel_rfl)
instance : IsZero Tryz.prog 66 [.nilFunc] := isZero_mk (b := 8) (by kernel_rfl) rfl
instance : IsElem Tryz.prog 66 [.nilFunc] 8 := isElem_mk (by kernel_rfl) rfl (by simp)
instance : IsAgg Tryz.prog 67 6 := isAgg_mk (by kernel_rfl)
instance : IsBuild Tryz.prog 67 [.bool false, .slice none 0 0, .slice none 0 0, .bool false, .slice none 0 0, .slice none 0 0] [(0, 3), (3, 3)] := ⟨by kernel_rfl, rfl⟩
instance : IsField Tryz.prog 67 0 0 := isField_mk (by kernel_rfl)
instance : IsField Tryz.prog 67 1 3 := isField_mk (by kernel_rfl)
instance : HasSize Tryz.prog 67 6 := hasSize_mk (by kernel_rfl)
instance : IsZero Tryz.prog 67 [.bool false, .slice none 0 0, .slice none 0 0, .bool false, .slice none 0 0, .slice none 0 0] := isZero_mk (b := 112) (by kernel_rfl) rfl
instance : IsElem Tryz.prog 67 [.bool false, .slice none 0 0, .slice none 0 0, .bool false, .slice none 0 0, .slice none 0 0] 112 := isElem_mk (by kernel_rfl) rfl (by simp)
instance : IsAgg Tryz.prog 68 6 := isAgg_mk (by kernel_rfl)
instance : IsBuild Tryz.prog 68 [.bool false, .slice none 0 0, .slice none 0 0, .bool false, .slice none 0 0, .slice none 0 0] [(0, 3), (3, 3)] := ⟨by kernel_rfl, rfl⟩
instance : IsField Tryz.prog 68 0 0 := isField_mk (by kernel_rfl)
instance : IsField Tryz.prog 68 1 3 := isField_mk (by kernel_rfl)
instance : HasSize Tryz.prog 68 6 := hasSize_mk (by kernel_rfl)
instance : IsZero Tryz.prog 68 [.bool false, .slice none 0 0, .slice none 0 0, .bool false, .slice none 0 0, .slice none 0 0] := isZero_mk (b := 112) (by kernel_rfl) rfl
instance : IsElem Tryz.prog 68 [.bool false, .slice none 0 0, .slice none 0 0, .bool false, .slice none 0 0, .slice none 0 0] 112 := isElem_mk (by kernel_rfl) rfl (by simp)
instance : IsScalar Tryz.prog 69 := isScalar_mk (by kernel_rfl)
instance : HasSize Tryz.prog 69 1 := hasSize_mk (by kernel_rfl)
instance : IsZero Tryz.prog 69 [.nilFunc] := isZero_mk (b := 8) (by kernel_rfl) rfl
instance : IsElem Tryz.prog 69 [.nilFunc] 8 := isElem_mk (by kernel_rfl) rfl (by simp)
instance : IsScalar Tryz.prog 70 := isScalar_mk (by kernel_rfl)
instance : HasSize Tryz.prog 70 1 := hasSize_mk (by kernel_rfl)
instance : IsZero Tryz.prog 70 [.nilFunc] := isZero_mk (b := 8) (by kernel_rfl) rfl
instance : IsElem Tryz.prog 70 [.nilFunc] 8 := isElem_mk (by kernel_rfl) rfl (by simp)
instance : IsScalar Tryz.prog 71 := isScalar_mk (by kernel_rfl)
instance : HasSize Tryz.prog 71 1 := hasSize_mk (by kernel_rfl)
instance : IsZero Tryz.prog 71 [.nilFunc] := isZero_mk (b := 8) (by kernel_rfl) rfl
instance : IsElem Tryz.prog 71 [.nilFunc] 8 := isElem_mk (by kernel_rfl) rfl (by simp)
instance : IsScalar Tryz.prog 72 := isScalar_mk (by kernel_rfl)
instance : HasSize Tryz.prog 72 1 := hasSize_mk (by kernel_rfl)
instance : IsZero Tryz.prog 72 [.nilFunc] := isZero_mk (b := 8) (by kernel_rfl) rfl
instance : IsElem Tryz.prog 72 [.nilFunc] 8 := isElem_mk (by kernel_rfl) rfl (by simp)
instance : IsScalar Tryz.prog 73 := isScalar_mk (by kernel_rfl)
instance : HasSize Tryz.prog 73 1 := hasSize_mk (by kernel_rfl)
instance : IsZero Tryz.prog 73 [.nilFunc] := isZero_mk (b := 8) (by kernel_rfl) rfl
instance : IsElem Tryz.prog 73 [.nilFunc] 8 := isElem_mk (by kernel_rfl) rfl (by simp)
instance : IsScalar Tryz.prog 74 := isScalar_mk (by kernel_rfl)
instance : HasSize Tryz.prog 74 1 := hasSize_mk (by kernel_rfl)
instance : IsZero Tryz.prog 74 [.nilFunc] := isZero_mk (b := 8) (by kernel_rfl) rfl
instance : IsElem Tryz.prog 74 [.nilFunc] 8 := isElem_mk (by kernel_rfl) rfl (by simp)
instance : IsScalar Tryz.prog 75 := isScalar_mk (by kernel_rfl)
instance : IsSl Tryz.prog 75 27 3 := isSl_mk (by kernel_rfl) (by kernel_rfl)
instance : HasSize Tryz.prog 75 1 := hasSize_mk (by kernel_rfl)
instance : IsZero Tryz.prog 75 [.slice none 0 0] := isZero_mk (b := 24) (by kernel_rfl) rfl
instance : IsElem Tryz.prog 75 [.slice none 0 0] 24 := isElem_mk (by kernel_rfl) rfl (by simp)
instance : IsScalar Tryz.prog 77 := isScalar_mk (by kernel_rfl)
instance : HasSize Tryz.prog 77 1 := hasSize_mk (by kernel_rfl)
instance : IsZero Tryz.prog 77 [.nilFunc] := isZero_mk (b := 8) (by kernel_rfl) rfl
instance : IsElem Tryz.prog 77 [.nilFunc] 8 := isElem_mk (by kernel_rfl) rfl (by simp)
instance : IsScalar Tryz.prog 79 := isScalar_mk (by kernel_rfl)
instance : HasSize Tryz.prog 79 1 := hasSize_mk (by kernel_rfl)
instance : IsZero Tryz.prog 79 [.nilFunc] := isZero_mk (b := 8) (by kernel_rfl) rfl
instance : IsElem Tryz.prog 79 [.nilFunc] 8 := isElem_mk (by kernel_rfl) rfl (by simp)
instance : IsScalar Tryz.prog 80 := isScalar_mk (by kernel_rfl)
instance : HasSize Tryz.prog 80 1 := hasSize_mk (by kernel_rfl)
instance : IsZero Tryz.prog 80 [.nilFunc] := isZero_mk (b := 8) (by kernel_rfl) rfl
instance : IsElem Tryz.prog 80 [.nilFunc] 8 := isElem_mk (by kernel_rfl) rfl (by simp)
instance : IsScalar Tryz.prog 81 := isScalar_mk (by kernel_rfl)
instance : HasSize Tryz.prog 81 1 := hasSize_mk (by kernel_rfl)
instance : IsZero Tryz.prog 81 [.nilFunc] := isZero_mk (b := 8) (by kernel_rfl) rfl
instance : IsElem Tryz.prog 81 [.nilFunc] 8 := isElem_mk (by kernel_rfl) rfl (by simp)
instance : IsScalar Tryz.prog 82 := isScalar_mk (by kernel_rfl)
instance : HasSize Tryz.prog 82 1 := hasSize_mk (by kernel_rfl)
instance : IsZero Tryz.prog 82 [.nilFunc] := isZero_mk (b := 8) (by kernel_rfl) rfl
instance : IsElem Tryz.prog 82 [.nilFunc] 8 := isElem_mk (by kernel_rfl) rfl (by simp)
instance : IsScalar Tryz.prog 83 := isScalar_mk (by kernel_rfl)
instance : HasSize Tryz.prog 83 1 := hasSize_mk (by kernel_rfl)
instance : IsZero Tryz.prog 83 [.nilFunc] := isZero_mk (b := 8) (by kernel_rfl) rfl
instance : IsElem Tryz.prog 83 [.nilFunc] 8 := isElem_mk (by kernel_rfl) rfl (by simp)
instance : IsScalar Tryz.prog 85 := isScalar_mk (by kernel_rfl)
instance : HasSize Tryz.prog 85 1 := hasSize_mk (by kernel_rfl)
instance : IsZero Tryz.prog 85 [.nilFunc] := isZero_mk (b := 8) (by kernel_rfl) rfl
instance : IsElem Tryz.prog 85 [.nilFunc] 8 := isElem_mk (by kernel_rfl) rfl (by simp)
instance : IsScalar Tryz.prog 87 := isScalar_mk (by kernel_rfl)
instance : HasSize Tryz.prog 87 1 := hasSize_mk (by kernel_rfl)
instance : IsZero Tryz.prog 87 [.nilFunc] := isZero_mk (b := 8) (by kernel_rfl) rfl
instance : IsElem Tryz.prog 87 [.nilFunc] 8 := isElem_mk (by kernel_rfl) rfl (by simp)
instance : IsScalar Tryz.prog 88 := isScalar_mk (by kernel_rfl)
instance : HasSize Tryz.prog 88 1 := hasSize_mk (by kernel_rfl)
instance : IsZero Tryz.prog 88 [.nilFunc] := isZero_mk (b := 8) (by kernel_rfl) rfl
instance : IsElem Tryz.prog 88 [.nilFunc] 8 := isElem_mk (by kernel_rfl) rfl (by simp)
instance : IsScalar Tryz.prog 90 := isScalar_mk (by kernel_rfl)
instance : HasSize Tryz.prog 90 1 := hasSize_mk (by kernel_rfl)
instance : IsZero Tryz.prog 90 [.nilFunc] := isZero_mk (b := 8) (by kernel_rfl) rfl
instance : IsElem Tryz.prog 90 [.nilFunc] 8 := isElem_mk (by kernel_rfl) rfl (by simp)
instance : IsScalar Tryz.prog 91 := isScalar_mk (by kernel_rfl)
instance : HasSize Tryz.prog 91 1 := hasSize_mk (by kernel_rfl)
instance : IsZero Tryz.prog 91 [.nilFunc] := isZero_mk (b := 8) (by kernel_rfl) rfl
instance : IsElem Tryz.prog 91 [.nilFunc] 8 := isElem_mk (by kernel_rfl) rfl (by simp)
instance : IsScalar Tryz.prog 92 := isScalar_mk (by kernel_rfl)
instance : HasSize Tryz.prog 92 1 := hasSize_mk (by kernel_rfl)
instance : IsZero Tryz.prog 92 [.nilFunc] := isZero_mk (b := 8) (by kernel_rfl) rfl
instance : IsElem Tryz.prog 92 [.nilFunc] 8 := isElem_mk (by kernel_rfl) rfl (by simp)
instance : IsScalar Tryz.prog 93 := isScalar_mk (by kernel_rfl)
instance : HasSize Tryz.prog 93 1 := hasSize_mk (by kernel_rfl)
instance : IsZero Tryz.prog 93 [.nilFunc] := isZero_mk (b := 8) (by kernel_rfl) rfl
instance : IsElem Tryz.prog 93 [.nilFunc] 8 := isElem_mk (by kernel_rfl) rfl (by simp)
instance : IsScalar Tryz.prog 94 := isScalar_mk (by kernel_rfl)
instance : HasSize Tryz.prog 94 1 := hasSize_mk (by kernel_rfl)
instance : IsZero Tryz.prog 94 [.nilFunc] := isZero_mk (b := 8) (by kernel_rfl) rfl
instance : IsElem Tryz.prog 94 [.nilFunc] 8 := isElem_mk (by kernel_rfl) rfl (by simp)
instance : IsScalar Tryz.prog 95 := isScalar_mk (by kernel_rfl)
instance : HasSize Tryz.prog 95 1 := hasSize_mk (by kernel_rfl)
instance : IsZero Tryz.prog 95 [.nilFunc] := isZero_mk (b := 8) (by kernel_rfl) rfl
instance : IsElem Tryz.prog 95 [.nilFunc] 8 := isElem_mk (by kernel_rfl) rfl (by simp)
instance : IsScalar Tryz.prog 96 := isScalar_mk (by kernel_rfl)
instance : HasSize Tryz.prog 96 1 := hasSize_mk (by kernel_rfl)
instance : IsZero Tryz.prog 96 [.nilFunc] := isZero_mk (b := 8) (by kernel_rfl) rfl
instance : IsElem Tryz.prog 96 [.nilFunc] 8 := isElem_mk (by kernel_rfl) rfl (by simp)
instance : IsScalar Tryz.prog 97 := isScalar_mk (by kernel_rfl)
instance : HasSize Tryz.prog 97 1 := hasSize_mk (by kernel_rfl)
instance : IsZero Tryz.prog 97 [.nilFunc] := isZero_mk (b := 8) (by kernel_rfl) rfl
instance : IsElem Tryz.prog 97 [.nilFunc] 8 := isElem_mk (by kernel_rfl) rfl (by simp)
instance : IsScalar Tryz.prog 99 := isScalar_mk (by kernel_rfl)
instance : HasSize Tryz.prog 99 1 := hasSize_mk (by kernel_rfl)
instance : IsZero Tryz.prog 99 [.nilFunc] := isZero_mk (b := 8) (by kernel_rfl) rfl
instance : IsElem Tryz.prog 99 [.nilFunc] 8 := isElem_mk (by kernel_rfl) rfl (by simp)
instance : IsScalar Tryz.prog 100 := isScalar_mk (by kernel_rfl)
instance : HasSize Tryz.prog 100 1 := hasSize_mk (by kernel_rfl)
instance : IsZero Tryz.prog 100 [.nilFunc] := isZero_mk (b := 8) (by kernel_rfl) rfl
instance : IsElem Tryz.prog 100 [.nilFunc] 8 := isElem_mk (by kernel_rfl) rfl (by simp)
instance : IsScalar Tryz.prog 101 := isScalar_mk (by kernel_rfl)
instance : HasSize Tryz.prog 101 1 := hasSize_mk (by kernel_rfl)
instance : IsZero Tryz.prog 101 [.nilFunc] := isZero_mk (b := 8) (by kernel_rfl) rfl
instance : IsElem Tryz.prog 101 [.nilFunc] 8 := isElem_mk (by kernel_rfl) rfl (by simp)
instance : IsScalar Tryz.prog 103 := isScalar_mk (by kernel_rfl)
instance : HasSize Tryz.prog 103 1 := hasSize_mk (by kernel_rfl)
instance : IsZero Tryz.prog 103 [.nilFunc] := isZero_mk (b := 8) (by kernel_rfl) rfl
instance : IsElem Tryz.prog 103 [.nilFunc] 8 := isElem_mk (by kernel_rfl) rfl (by simp)
instance : IsScalar Tryz.prog 104 := isScalar_mk (by kernel_rfl)
instance : IsInt Tryz.prog 104 .u64 := ⟨by kernel_rfl⟩
instance : HasTy Tryz.prog 104 := ⟨by kernel_rfl⟩
instance : HasSize Tryz.prog 104 1 := hasSize_mk (by kernel_rfl)
instance : IsZero Tryz.prog 104 [.int .u64 0] := isZero_mk (b := 8) (by kernel_rfl) rfl
instance : IsElem Tryz.prog 104 [.int .u64 0] 8 := isElem_mk (by kernel_rfl) rfl (by simp)
instance : IsScalar Tryz.prog 105 := isScalar_mk (by kernel_rfl)
instance : HasSize Tryz.prog 105 1 := hasSize_mk (by kernel_rfl)
instance : IsZero Tryz.prog 105 [.nilFunc] := isZero_mk (b := 8) (by kernel_rfl) rfl
instance : IsElem Tryz.prog 105 [.nilFunc] 8 := isElem_mk (by kernel_rfl) rfl (by simp)
instance : IsAgg Tryz.prog 106 12 := isAgg_mk (by kernel_rfl)
instance : IsBuild Tryz.prog 106 [.bool false, .slice none 0 0, .slice none 0 0, .bool false, .slice none 0 0, .slice none 0 0, .bool false, .slice none 0 0, .slice none 0 0, .bool false, .slice none 0 0, .slice none 0 0] [(0, 6), (6, 6)] := ⟨by kernel_rfl, rfl⟩
instance : IsField Tryz.prog 106 0 0 := isField_mk (by kernel_rfl)
instance : IsField Tryz.prog 106 1 6 := isField_mk (by kernel_rfl)
instance : HasSize Tryz.prog 106 12 := hasSize_mk (by kernel_rfl)
instance : IsZero Tryz.prog 106 [.bool false, .slice none 0 0, .slice none 0 0, .bool false, .slice none 0 0, .slice none 0 0, .bool false, .slice none 0 0, .slice none 0 0, .bool false, .slice none 0 0, .slice none 0 0] := isZero_mk (b := 224) (by kernel_rfl) rfl
instance : IsElem Tryz.prog 106 [.bool false, .slice none 0 0, .slice none 0 0, .bool false, .slice none 0 0, .slice none 0 0, .bool false, .slice none 0 0, .slice none 0 0, .bool false, .slice none 0 0, .slice none 0 0] 224 := isElem_mk (by kernel_rfl) rfl (by simp)
instance : IsAgg Tryz.prog 107 12 := isAgg_mk (by kernel_rfl)
instance : IsBuild Tryz.prog 107 [.bool false, .slice none 0 0, .slice none 0 0, .bool false, .slice none 0 0, .slice none 0 0, .bool false, .slice none 0 0, .slice none 0 0, .bool false, .slice none 0 0, .slice none 0 0] [(0, 6), (6, 6)] := ⟨by kernel_rfl, rfl⟩
instance : IsField Tryz.prog 107 0 0 := isField_mk (by kernel_rfl)
instance : IsField Tryz.prog 107 1 6 := isField_mk (by kernel_rfl)
instance : HasSize Tryz.prog 107 12 := hasSize_mk (by kernel_rfl)
instance : IsZero Tryz.prog 107 [.bool false, .slice none 0 0, .slice none 0 0, .bool false, .slice none 0 0, .slice none 0 0, .bool false, .slice none 0 0, .slice none 0 0, .bool false, .slice none 0 0, .slice none 0 0] := isZero_mk (b := 224) (by kernel_rfl) rfl
instance : IsElem Tryz.prog 107 [.bool false, .slice none 0 0, .slice none 0 0, .bool false, .slice none 0 0, .slice none 0 0, .bool false, .slice none 0 0, .slice none 0 0, .bool false, .slice none 0 0, .slice none 0 0] 224 := isElem_mk (by kernel_rfl) rfl (by simp)
instance : IsScalar Tryz.prog 108 := isScalar_mk (by kernel_rfl)
instance : HasSize Tryz.prog 108 1 := hasSize_mk (by kernel_rfl)
instance : IsZero Tryz.prog 108 [.nilFunc] := isZero_mk (b := 8) (by kernel_rfl) rfl
instance : IsElem Tryz.prog 108 [.nilFunc] 8 := isElem_mk (by kernel_rfl) rfl (by simp)
instance : IsScalar Tryz.prog 109 := isScalar_mk (by kernel_rfl)
instance : HasSize Tryz.prog 109 1 := hasSize_mk (by kernel_rfl)
instance : IsZero Tryz.prog 109 [.nilFunc] := isZero_mk (b := 8) (by kernel_rfl) rfl
instance : IsElem Tryz.prog 109 [.nilFunc] 8 := isElem_mk (by kernel_rfl) rfl (by simp)
instance : IsScalar Tryz.prog 110 := isScalar_mk (by kernel_rfl)
instance : HasSize Tryz.prog 110 1 := hasSize_mk (by kernel_rfl)
instance : IsZero Tryz.prog 110 [.nilFunc] := isZero_mk (b := 8) (by kernel_rfl) rfl
instance : IsElem Tryz.prog 110 [.nilFunc] 8 := isElem_mk (by kernel_rfl) rfl (by simp)
instance : IsScalar Tryz.prog 111 := isScalar_mk (by kernel_rfl)
instance : HasSize Tryz.prog 111 1 := hasSize_mk (by kernel_rfl)
instance : IsZero Tryz.prog 111 [.nilFunc] := isZero_mk (b := 8) (by kernel_rfl) rfl
instance : IsElem Tryz.prog 111 [.nilFunc] 8 := isElem_mk (by kernel_rfl) rfl (by simp)
instance : IsScalar Tryz.prog 112 := isScalar_mk (by kernel_rfl)
instance : HasSize Tryz.prog 112 1 := hasSize_mk (by kernel_rfl)
instance : IsZero Tryz.prog 112 [.pointer none] := isZero_mk (b := 8) (by kernel_rfl) rfl
instance : IsElem Tryz.prog 112 [.pointer none] 8 := isElem_mk (by kernel_rfl) rfl (by simp)
instance : IsAgg Tryz.prog 113 4 := isAgg_mk (by kernel_rfl)
instance : IsBuild Tryz.prog 113 [.slice none 0 0, .slice none 0 0, .slice none 0 0, .int .i64 0] [(0, 3), (3, 1)] := ⟨by kernel_rfl, rfl⟩
instance : IsField Tryz.prog 113 0 0 := isField_mk (by kernel_rfl)
instance : IsField Tryz.prog 113 1 3 := isField_mk (by kernel_rfl)
instance : HasSize Tryz.prog 113 4 := hasSize_mk (by kernel_rfl)
instance : IsZero Tryz.prog 113 [.slice none 0 0, .slice none 0 0, .slice none 0 0, .int .i64 0] := isZero_mk (b := 80) (by kernel_rfl) rfl
instance : IsElem Tryz.prog 113 [.slice none 0 0, .slice none 0 0, .slice none 0 0, .int .i64 0] 80 := isElem_mk (by kernel_rfl) rfl (by simp)
instance : IsAgg Tryz.prog 114 4 := isAgg_mk (by kernel_rfl)
instance : IsBuild Tryz.prog 114 [.slice none 0 0, .slice none 0 0, .slice none 0 0, .int .i64 0] [(0, 3), (3, 1)] := ⟨by kernel_rfl, rfl⟩
instance : IsField Tryz.prog 114 0 0 := isField_mk (by kernel_rfl)
instance : IsField Tryz.prog 114 1 3 := isField_mk (by kernel_rfl)
instance : HasSize Tryz.prog 114 4 := hasSize_mk (by kernel_rfl)
instance : IsZero Tryz.prog 114 [.slice none 0 0, .slice none 0 0, .slice none 0 0, .int .i64 0] := isZero_mk (b := 80) (by kernel_rfl) rfl
instance : IsElem Tryz.prog 114 [.slice none 0 0, .slice none 0 0, .slice none 0 0, .int .i64 0] 80 := isElem_mk (by kernel_rfl) rfl (by simp)
instance : IsScalar Tryz.prog 115 := isScalar_mk (by kernel_rfl)
instance : HasSize Tryz.prog 115 1 := hasSize_mk (by kernel_rfl)
instance : IsZero Tryz.prog 115 [.nilFunc] := isZero_mk (b := 8) (by kernel_rfl) rfl
instance : IsElem Tryz.prog 115 [.nilFunc] 8 := isElem_mk (by kernel_rfl) rfl (by simp)
instance : IsScalar Tryz.prog 116 := isScalar_mk (by kernel_rfl)
instance : HasSize Tryz.prog 116 1 := hasSize_mk (by kernel_rfl)
instance : IsZero Tryz.prog 116 [.nilFunc] := isZero_mk (b := 8) (by kernel_rfl) rfl
instance : IsElem Tryz.prog 116 [.nilFunc] 8 := isElem_mk (by kernel_rfl) rfl (by simp)
instance : IsScalar Tryz.prog 117 := isScalar_mk (by kernel_rfl)
instance : HasSize Tryz.prog 117 1 := hasSize_mk (by kernel_rfl)
instance : IsZero Tryz.prog 117 [.nilFunc] := isZero_mk (b := 8) (by kernel_rfl) rfl
instance : IsElem Tryz.prog 117 [.nilFunc] 8 := isElem_mk (by kernel_rfl) rfl (by simp)
instance : IsScalar Tryz.prog 118 := isScalar_mk (by kernel_rfl)
instance : HasSize Tryz.prog 118 1 := hasSize_mk (by kernel_rfl)
instance : IsZero Tryz.prog 118 [.nilFunc] := isZero_mk (b := 8) (by kernel_rfl) rfl
instance : IsElem Tryz.prog 118 [.nilFunc] 8 := isElem_mk (by kernel_rfl) rfl (by simp)
instance : IsScalar Tryz.prog 119 := isScalar_mk (by kernel_rfl)
instance : HasSize Tryz.prog 119 1 := hasSize_mk (by kernel_rfl)
instance : IsZero Tryz.prog 119 [.nilFunc] := isZero_mk (b := 8) (by kernel_rfl) rfl
instance : IsElem Tryz.prog 119 [.nilFunc] 8 := isElem_mk (by kernel_rfl) rfl (by simp)
instance : IsScalar Tryz.prog 120 := isScalar_mk (by kernel_rfl)
instance : HasSize Tryz.prog 120 1 := hasSize_mk (by kernel_rfl)
instance : IsZero Tryz.prog 120 [.nilFunc] := isZero_mk (b := 8) (by kernel_rfl) rfl
instance : IsElem Tryz.prog 120 [.nilFunc] 8 := isElem_mk (by kernel_rfl) rfl (by simp)
instance : IsScalar Tryz.prog 121 := isScalar_mk (by kernel_rfl)
instance : HasSize Tryz.prog 121 1 := hasSize_mk (by kernel_rfl)
instance : IsZero Tryz.prog 121 [.nilFunc] := isZero_mk (b := 8) (by kernel_rfl) rfl
instance : IsElem Tryz.prog 121 [.nilFunc] 8 := isElem_mk (by kernel_rfl) rfl (by simp)
instance : IsScalar Tryz.prog 122 := isScalar_mk (by kernel_rfl)
instance : HasSize Tryz.prog 122 1 := hasSize_mk (by kernel_rfl)
instance : IsZero Tryz.prog 122 [.nilFunc] := isZero_mk (b := 8) (by kernel_rfl) rfl
instance : IsElem Tryz.prog 122 [.nilFunc] 8 := isElem_mk (by kernel_rfl) rfl (by simp)
instance : IsScalar Tryz.prog 123 := isScalar_mk (by kernel_rfl)
instance : HasSize Tryz.prog 123 1 := hasSize_mk (by kernel_rfl)
instance : IsZero Tryz.prog 123 [.nilFunc] := isZero_mk (b := 8) (by kernel_rfl) rfl
instance : IsElem Tryz.prog 123 [.nilFunc] 8 := isElem_mk (by kernel_rfl) rfl (by simp)
instance : IsScalar Tryz.prog 124 := isScalar_mk (by kernel_rfl)
instance : HasSize Tryz.prog 124 1 := hasSize_mk (by kernel_rfl)
instance : IsZero Tryz.prog 124 [.nilFunc] := isZero_mk (b := 8) (by kernel_rfl) rfl
instance : IsElem Tryz.prog 124 [.nilFunc] 8 := isElem_mk (by kernel_rfl) rfl (by simp)
instance : IsScalar Tryz.prog 125 := isScalar_mk (by kernel_rfl)
instance : HasSize Tryz.prog 125 1 := hasSize_mk (by kernel_rfl)
instance : IsZero Tryz.prog 125 [.nilFunc] := isZero_mk (b := 8) (by kernel_rfl) rfl
instance : IsElem Tryz.prog 125 [.nilFunc] 8 := isElem_mk (by kernel_rfl) rfl (by simp)
instance : IsScalar Tryz.prog 126 := isScalar_mk (by kernel_rfl)
instance : HasSize Tryz.prog 126 1 := hasSize_mk (by kernel_rfl)
instance : IsZero Tryz.prog 126 [.pointer none] := isZero_mk (b := 8) (by kernel_rfl) rfl
instance : IsElem Tryz.prog 126 [.pointer none] 8 := isElem_mk (by kernel_rfl) rfl (by simp)
instance : IsAgg Tryz.prog 127 3 := isAgg_mk (by kernel_rfl)
instance : IsBuild Tryz.prog 127 [.bool false, .slice none 0 0, .slice none 0 0] [(0, 3)] := ⟨by kernel_rfl, rfl⟩
instance : IsField Tryz.prog 127 0 0 := isField_mk (by kernel_rfl)
instance : HasSize Tryz.prog 127 3 := hasSize_mk (by kernel_rfl)
instance : IsZero Tryz.prog 127 [.bool false, .slice none 0 0, .slice none 0 0] := isZero_mk (b := 56) (by kernel_rfl) rfl
instance : IsElem Tryz.prog 127 [.bool false, .slice none 0 0, .slice none 0 0] 56 := isElem_mk (by kernel_rfl) rfl (by simp)
instance : IsAgg Tryz.prog 128 3 := isAgg_mk (by kernel_rfl)
instance : IsBuild Tryz.prog 128 [.bool false, .slice none 0 0, .slice none 0 0] [(0, 3)] := ⟨by kernel_rfl, rfl⟩
instance : IsField Tryz.prog 128 0 0 := isField_mk (by kernel_rfl)
instance : HasSize Tryz.prog 128 3 := hasSize_mk (by kernel_rfl)
instance : IsZero Tryz.prog 128 [.bool false, .slice none 0 0, .slice none 0 0] := isZero_mk (b := 56) (by kernel_rfl) rfl
instance : IsElem Tryz.prog 128 [.bool false, .slice none 0 0, .slice none 0 0] 56 := isElem_mk (by kernel_rfl) rfl (by simp)
instance : IsScalar Tryz.prog 129 := isScalar_mk (by kernel_rfl)
instance : HasSize Tryz.prog 129 1 := hasSize_mk (by kernel_rfl)
instance : IsZero Tryz.prog 129 [.nilFunc] := isZero_mk (b := 8) (by kernel_rfl) rfl
instance : IsElem Tryz.prog 129 [.nilFunc] 8 := isElem_mk (by kernel_rfl) rfl (by simp)
instance : IsScalar Tryz.prog 130 := isScalar_mk (by kernel_rfl)
instance : HasSize Tryz.prog 130 1 := hasSize_mk (by kernel_rfl)
instance : IsZero Tryz.prog 130 [.nilFunc] := isZero_mk (b := 8) (by kernel_rfl) rfl
instance : IsElem Tryz.prog 130 [.nilFunc] 8 := isElem_mk (by kernel_rfl) rfl (by simp)
instance : IsScalar Tryz.prog 131 := isScalar_mk (by kernel_rfl)
instance : HasSize Tryz.prog 131 1 := hasSize_mk (by kernel_rfl)
instance : IsZero Tryz.prog 131 [.nilFunc] := isZero_mk (b := 8) (by kernel_rfl) rfl
instance : IsElem Tryz.prog 131 [.nilFunc] 8 := isElem_mk (by kernel_rfl) rfl (by simp)
instance : IsScalar Tryz.prog 132 := isScalar_mk (by kernel_rfl)
instance : HasSize Tryz.prog 132 1 := hasSize_mk (by kernel_rfl)
instance : IsZero Tryz.prog 132 [.nilFunc] := isZero_mk (b := 8) (by kernel_rfl) rfl
instance : IsElem Tryz.prog 132 [.nilFunc] 8 := isElem_mk (by kernel_rfl) rfl (by simp)
instance : IsScalar Tryz.prog 133 := isScalar_mk (by kernel_rfl)
instance : HasSize Tryz.prog 133 1 := hasSize_mk (by kernel_rfl)
instance : IsZero Tryz.prog 133 [.nilFunc] := isZero_mk (b := 8) (by kernel_rfl) rfl
instance : IsElem Tryz.prog 133 [.nilFunc] 8 := isElem_mk (by kernel_rfl) rfl (by simp)
instance : IsScalar Tryz.prog 134 := isScalar_mk (by kernel_rfl)
instance : HasSize Tryz.prog 134 1 := hasSize_mk (by kernel_rfl)
instance : IsZero Tryz.prog 134 [.nilFunc] := isZero_mk (b := 8) (by kernel_rfl) rfl
instance : IsElem Tryz.prog 134 [.nilFunc] 8 := isElem_mk (by kernel_rfl) rfl (by simp)
instance : IsScalar Tryz.prog 135 := isScalar_mk (by kernel_rfl)
instance : HasSize Tryz.prog 135 1 := hasSize_mk (by kernel_rfl)
instance : IsZero Tryz.prog 135 [.nilFunc] := isZero_mk (b := 8) (by kernel_rfl) rfl
instance : IsElem Tryz.prog 135 [.nilFunc] 8 := isElem_mk (by kernel_rfl) rfl (by simp)
instance : IsScalar Tryz.prog 136 := isScalar_mk (by kernel_rfl)
instance : IsSl Tryz.prog 136 5 1 := isSl_mk (by kernel_rfl) (by kernel_rfl)
instance : HasSize Tryz.prog 136 1 := hasSize_mk (by kernel_rfl)
instance : IsZero Tryz.prog 136 [.slice none 0 0] := isZero_mk (b := 24) (by kernel_rfl) rfl
instance : IsElem Tryz.prog 136 [.slice none 0 0] 24 := isElem_mk (by kernel_rfl) rfl (by simp)
instance : IsScalar Tryz.prog 137 := isScalar_mk (by kernel_rfl)
instance : HasSize Tryz.prog 137 1 := hasSize_mk (by kernel_rfl)
instance : IsZero Tryz.prog 137 [.pointer none] := isZero_mk (b := 8) (by kernel_rfl) rfl
instance : IsElem Tryz.prog 137 [.pointer none] 8 := isElem_mk (by kernel_rfl) rfl (by simp)
instance : IsAgg Tryz.prog 138 2 := isAgg_mk (by kernel_rfl)
instance : IsBuild Tryz.prog 138 [.pointer none, .slice none 0 0] [(0, 1), (1, 1)] := ⟨by kernel_rfl, rfl⟩
instance : IsField Tryz.prog 138 0 0 := isField_mk (by kernel_rfl)
instance : IsField Tryz.prog 138 1 1 := isField_mk (by kernel_rfl)
instance : HasSize Tryz.prog 138 2 := hasSize_mk (by kernel_rfl)
instance : IsZero Tryz.prog 138 [.pointer none, .slice none 0 0] := isZero_mk (b := 32) (by kernel_rfl) rfl
instance : IsElem Tryz.prog 138 [.pointer none, .slice none 0 0] 32 := isElem_mk (by kernel_rfl) rfl (by simp)
instance : IsAgg Tryz.prog 139 2 := isAgg_mk (by kernel_rfl)
instance : IsBuild Tryz.prog 139 [.pointer none, .slice none 0 0] [(0, 1), (1, 1)] := ⟨by kernel_rfl, rfl⟩
instance : IsField Tryz.prog 139 0 0 := isField_mk (by kernel_rfl)
instance : IsField Tryz.prog 139 1 1 := isField_mk (by kernel_rfl)
instance : HasSize Tryz.prog 139 2 := hasSize_mk (by kernel_rfl)
instance : IsZero Tryz.prog 139 [.pointer none, .slice none 0 0] := isZero_mk (b := 32) (by kernel_rfl) rfl
instance : IsElem Tryz.prog 139 [.pointer none, .slice none 0 0] 32 := isElem_mk (by kernel_rfl) rfl (by simp)
instance : IsScalar Tryz.prog 140 := isScalar_mk (by kernel_rfl)
instance : HasSize Tryz.prog 140 1 := hasSize_mk (by kernel_rfl)
instance : IsZero Tryz.prog 140 [.nilFunc] := isZero_mk (b := 8) (by kernel_rfl) rfl
instance : IsElem Tryz.prog 140 [.nilFunc] 8 := isElem_mk (by kernel_rfl) rfl (by simp)
instance : IsScalar Tryz.prog 142 := isScalar_mk (by kernel_rfl)
instance : HasSize Tryz.prog 142 1 := hasSize_mk (by kernel_rfl)
instance : IsZero Tryz.prog 142 [.nilIface] := isZero_mk (b := 16) (by kernel_rfl) rfl
instance : IsElem Tryz.prog 142 [.nilIface] 16 := isElem_mk (by kernel_rfl) rfl (by simp)
instance : IsScalar Tryz.prog 144 := isScalar_mk (by kernel_rfl)
instance : HasSize Tryz.prog 144 1 := hasSize_mk (by kernel_rfl)
instance : IsZero Tryz.prog 144 [.nilFunc] := isZero_mk (b := 8) (by kernel_rfl) rfl
instance : IsElem Tryz.prog 144 [.nilFunc] 8 := isElem_mk (by kernel_rfl) rfl (by simp)
instance : IsScalar Tryz.prog 145 := isScalar_mk (by kernel_rfl)
instance : HasSize Tryz.prog 145 1 := hasSize_mk (by kernel_rfl)
instance : IsZero Tryz.prog 145 [.nilFunc] := isZero_mk (b := 8) (by kernel_rfl) rfl
instance : IsElem Tryz.prog 145 [.nilFunc] 8 := isElem_mk (by kernel_rfl) rfl (by simp)
instance : IsScalar Tryz.prog 146 := isScalar_mk (by kernel_rfl)
instance : HasSize Tryz.prog 146 1 := hasSize_mk (by kernel_rfl)
instance : IsZero Tryz.prog 146 [.nilFunc] := isZero_mk (b := 8) (by kernel_rfl) rfl
instance : IsElem Tryz.prog 146 [.nilFunc] 8 := isElem_mk (by kernel_rfl) rfl (by simp)
instance : IsScalar Tryz.prog 147 := isScalar_mk (by kernel_rfl)
instance : HasSize Tryz.prog 147 1 := hasSize_mk (by kernel_rfl)
instance : IsZero Tryz.prog 147 [.nilFunc] := isZero_mk (b := 8) (by kernel_rfl) rfl
instance : IsElem Tryz.prog 147 [.nilFunc] 8 := isElem_mk (by kernel_rfl) rfl (by simp)
instance : IsScalar Tryz.prog 148 := isScalar_mk (by kernel_rfl)
instance : HasSize Tryz.prog 148 1 := hasSize_mk (by kernel_rfl)
instance : IsZero Tryz.prog 148 [.nilFunc] := isZero_mk (b := 8) (by kernel_rfl) rfl
instance : IsElem Tryz.prog 148 [.nilFunc] 8 := isElem_mk (by kernel_rfl) rfl (by simp)
instance : IsScalar Tryz.prog 149 := isScalar_mk (by kernel_rfl)
instance : HasSize Tryz.prog 149 1 := hasSize_mk (by kernel_rfl)
instance : IsZero Tryz.prog 149 [.nilFunc] := isZero_mk (b := 8) (by kernel_rfl) rfl
instance : IsElem Tryz.prog 149 [.nilFunc] 8 := isElem_mk (by kernel_rfl) rfl (by simp)
instance : IsScalar Tryz.prog 150 := isScalar_mk (by kernel_rfl)
instance : HasSize Tryz.prog 150 1 := hasSize_mk (by kernel_rfl)
instance : IsZero Tryz.prog 150 [.nilFunc] := isZero_mk (b := 8) (by kernel_rfl) rfl
instance : IsElem Tryz.prog 150 [.nilFunc] 8 := isElem_mk (by kernel_rfl) rfl (by simp)
instance : IsScalar Tryz.prog 153 := isScalar_mk (by kernel_rfl)
instance : HasSize Tryz.prog 153 1 := hasSize_mk (by kernel_rfl)
instance : IsZero Tryz.prog 153 [.nilFunc] := isZero_mk (b := 8) (by kernel_rfl) rfl
instance : IsElem Tryz.prog 153 [.nilFunc] 8 := isElem_mk (by kernel_rfl) rfl (by simp)
instance : IsScalar Tryz.prog 154 := isScalar_mk (by kernel_rfl)
instance : HasSize Tryz.prog 154 1 := hasSize_mk (by kernel_rfl)
instance : IsZero Tryz.prog 154 [.nilFunc] := isZero_mk (b := 8) (by kernel_rfl) rfl
instance : IsElem Tryz.prog 154 [.nilFunc] 8 := isElem_mk (by kernel_rfl) rfl (by simp)
instance : IsScalar Tryz.prog 155 := isScalar_mk (by kernel_rfl)
instance : HasSize Tryz.prog 155 1 := hasSize_mk (by kernel_rfl)
instance : IsZero Tryz.prog 155 [.nilFunc] := isZero_mk (b := 8) (by kernel_rfl) rfl
instance : IsElem Tryz.prog 155 [.nilFunc] 8 := isElem_mk (by kernel_rfl) rfl (by simp)
instance : IsScalar Tryz.prog 156 := isScalar_mk (by kernel_rfl)
instance : HasSize Tryz.prog 156 1 := hasSize_mk (by kernel_rfl)
instance : IsZero Tryz.prog 156 [.nilFunc] := isZero_mk (b := 8) (by kernel_rfl) rfl
instance : IsElem Tryz.prog 156 [.nilFunc] 8 := isElem_mk (by kernel_rfl) rfl (by simp)
instance : IsScalar Tryz.prog 157 := isScalar_mk (by kernel_rfl)
instance : HasSize Tryz.prog 157 1 := hasSize_mk (by kernel_rfl)
instance : IsZero Tryz.prog 157 [.nilFunc] := isZero_mk (b := 8) (by kernel_rfl) rfl
instance : IsElem Tryz.prog 157 [.nilFunc] 8 := isElem_mk (by kernel_rfl) rfl (by simp)
instance : IsScalar Tryz.prog 158 := isScalar_mk (by kernel_rfl)
instance : IsSl Tryz.prog 158 23 1 := isSl_mk (by kernel_rfl) (by kernel_rfl)
instance : HasSize Tryz.prog 158 1 := hasSize_mk (by kernel_rfl)
instance : IsZero Tryz.prog 158 [.slice none 0 0] := isZero_mk (b := 24) (by kernel_rfl) rfl
instance : IsElem Tryz.prog 158 [.slice none 0 0] 24 := isElem_mk (by kernel_rfl) rfl (by simp)
instance : IsScalar Tryz.prog 159 := isScalar_mk (by kernel_rfl)
instance : HasSize Tryz.prog 159 1 := hasSize_mk (by kernel_rfl)
instance : IsZero Tryz.prog 159 [.nilFunc] := isZero_mk (b := 8) (by kernel_rfl) rfl
instance : IsElem Tryz.prog 159 [.nilFunc] 8 := isElem_mk (by kernel_rfl) rfl (by simp)
instance : IsScalar Tryz.prog 160 := isScalar_mk (by kernel_rfl)
instance : HasSize Tryz.prog 160 1 := hasSize_mk (by kernel_rfl)
instance : IsZero Tryz.prog 160 [.nilFunc] := isZero_mk (b := 8) (by kernel_rfl) rfl
instance : IsElem Tryz.prog 160 [.nilFunc] 8 := isElem_mk (by kernel_rfl) rfl (by simp)
instance : IsScalar Tryz.prog 161 := isScalar_mk (by kernel_rfl)
instance : HasSize Tryz.prog 161 1 := hasSize_mk (by kernel_rfl)
instance : IsZero Tryz.prog 161 [.nilFunc] := isZero_mk (b := 8) (by kernel_rfl) rfl
instance : IsElem Tryz.prog 161 [.nilFunc] 8 := isElem_mk (by kernel_rfl) rfl (by simp)
instance : IsScalar Tryz.prog 163 := isScalar_mk (by kernel_rfl)
instance : HasSize Tryz.prog 163 1 := hasSize_mk (by kernel_rfl)
instance : IsZero Tryz.prog 163 [.nilFunc] := isZero_mk (b := 8) (by kernel_rfl) rfl
instance : IsElem Tryz.prog 163 [.nilFunc] 8 := isElem_mk (by kernel_rfl) rfl (by simp)
instance : IsScalar Tryz.prog 164 := isScalar_mk (by kernel_rfl)
instance : HasSize Tryz.prog 164 1 := hasSize_mk (by kernel_rfl)
instance : IsZero Tryz.prog 164 [.nilFunc] := isZero_mk (b := 8) (by kernel_rfl) rfl
instance : IsElem Tryz.prog 164 [.nilFunc] 8 := isElem_mk (by kernel_rfl) rfl (by simp)
instance : IsScalar Tryz.prog 166 := isScalar_mk (by kernel_rfl)
instance : HasSize Tryz.prog 166 1 := hasSize_mk (by kernel_rfl)
instance : IsZero Tryz.prog 166 [.nilFunc] := isZero_mk (b := 8) (by kernel_rfl) rfl
instance : IsElem Tryz.prog 166 [.nilFunc] 8 := isElem_mk (by kernel_rfl) rfl (by simp)
instance : IsScalar Tryz.prog 167 := isScalar_mk (by kernel_rfl)
instance : HasSize Tryz.prog 167 1 := hasSize_mk (by kernel_rfl)
instance : IsZero Tryz.prog 167 [.nilFunc] := isZero_mk (b := 8) (by kernel_rfl) rfl
instance : IsElem Tryz.prog 167 [.nilFunc] 8 := isElem_mk (by kernel_rfl) rfl (by simp)
instance : IsScalar Tryz.prog 168 := isScalar_mk (by kernel_rfl)
instance : HasSize Tryz.prog 168 1 := hasSize_mk (by kernel_rfl)
instance : IsZero Tryz.prog 168 [.nilFunc] := isZero_mk (b := 8) (by kernel_rfl) rfl
instance : IsElem Tryz.prog 168 [.nilFunc] 8 := isElem_mk (by kernel_rfl) rfl (by simp)
instance : IsAgg Tryz.prog 169 256 := isAgg_mk (by kernel_rfl)
instance : IsArr Tryz.prog 169 256 1 := ⟨4, by kernel_rfl, by kernel_rfl⟩
instance : HasSize Tryz.prog 169 256 := hasSize_mk (by kernel_rfl)
instance : IsAgg Tryz.prog 170 256 := isAgg_mk (by kernel_rfl)
instance : IsArr Tryz.prog 170 256 1 := ⟨4, by kernel_rfl, by kernel_rfl⟩
instance : HasSize Tryz.prog 170 256 := hasSize_mk (by kernel_rfl)
instance : IsScalar Tryz.prog 172 := isScalar_mk (by kernel_rfl)
instance : HasSize Tryz.prog 172 1 := hasSize_mk (by kernel_rfl)
instance : IsZero Tryz.prog 172 [.nilFunc] := isZero_mk (b := 8) (by kernel_rfl) rfl
instance : IsElem Tryz.prog 172 [.nilFunc] 8 := isElem_mk (by kernel_rfl) rfl (by simp)
instance : IsScalar Tryz.prog 173 := isScalar_mk (by kernel_rfl)
instance : HasSize Tryz.prog 173 1 := hasSize_mk (by kernel_rfl)
instance : IsZero Tryz.prog 173 [.nilFunc] := isZero_mk (b := 8) (by kernel_rfl) rfl
instance : IsElem Tryz.prog 173 [.nilFunc] 8 := isElem_mk (by kernel_rfl) rfl (by simp)
instance : IsScalar Tryz.prog 174 := isScalar_mk (by kernel_rfl)
instance : HasSize Tryz.prog 174 1 := hasSize_mk (by kernel_rfl)
instance : IsZero Tryz.prog 174 [.pointer none] := isZero_mk (b := 8) (by kernel_rfl) rfl
instance : IsElem Tryz.prog 174 [.pointer none] 8 := isElem_mk (by kernel_rfl) rfl (by simp)
instance : IsScalar Tryz.prog 175 := isScalar_mk (by kernel_rfl)
instance : HasSize Tryz.prog 175 1 := hasSize_mk (by kernel_rfl)
instance : IsZero Tryz.prog 175 [.nilFunc] := isZero_mk (b := 8) (by kernel_rfl) rfl
instance : IsElem Tryz.prog 175 [.nilFunc] 8 := isElem_mk (by kernel_rfl) rfl (by simp)
instance : IsScalar Tryz.prog 176 := isScalar_mk (by kernel_rfl)
instance : HasSize Tryz.prog 176 1 := hasSize_mk (by kernel_rfl)
instance : IsZero Tryz.prog 176 [.pointer none] := isZero_mk (b := 8) (by kernel_rfl) rfl
instance : IsElem Tryz.prog 176 [.pointer none] 8 := isElem_mk (by kernel_rfl) rfl (by simp)
instance : IsScalar Tryz.prog 177 := isScalar_mk (by kernel_rfl)
instance : HasSize Tryz.prog 177 1 := hasSize_mk (by kernel_rfl)
instance : IsZero Tryz.prog 177 [.nilFunc] := isZero_mk (b := 8) (by kernel_rfl) rfl
instance : IsElem Tryz.prog 177 [.nilFunc] 8 := isElem_mk (by kernel_rfl) rfl (by simp)
instance : IsScalar Tryz.prog 178 := isScalar_mk (by kernel_rfl)
instance : HasSize Tryz.prog 178 1 := hasSize_mk (by kernel_rfl)
instance : IsZero Tryz.prog 178 [.nilFunc] := isZero_mk (b := 8) (by kernel_rfl) rfl
instance : IsElem Tryz.prog 178 [.nilFunc] 8 := isElem_mk (by kernel_rfl) rfl (by simp)
instance : IsScalar Tryz.prog 179 := isScalar_mk (by kernel_rfl)
instance : HasSize Tryz.prog 179 1 := hasSize_mk (by kernel_rfl)
instance : IsZero Tryz.prog 179 [.nilFunc] := isZero_mk (b := 8) (by kernel_rfl) rfl
instance : IsElem Tryz.prog 179 [.nilFunc] 8 := isElem_mk (by kernel_rfl) rfl (by simp)
instance : IsScalar Tryz.prog 180 := isScalar_mk (by kernel_rfl)
instance : IsSl Tryz.prog 180 25 2 := isSl_mk (by kernel_rfl) (by kernel_rfl)
instance : HasSize Tryz.prog 180 1 := hasSize_mk (by kernel_rfl)
instance : IsZero Tryz.prog 180 [.slice none 0 0] := isZero_mk (b := 24) (by kernel_rfl) rfl
instance : IsElem Tryz.prog 180 [.slice none 0 0] 24 := isElem_mk (by kernel_rfl) rfl (by simp)
instance : IsScalar Tryz.prog 181 := isScalar_mk (by kernel_rfl)
instance : HasSize Tryz.prog 181 1 := hasSize_mk (by kernel_rfl)
instance : IsZero Tryz.prog 181 [.nilFunc] := isZero_mk (b := 8) (by kernel_rfl) rfl
instance : IsElem Tryz.prog 181 [.nilFunc] 8 := isElem_mk (by kernel_rfl) rfl (by simp)
instance : IsScalar Tryz.prog 182 := isScalar_mk (by kernel_rfl)
instance : HasSize Tryz.prog 182 1 := hasSize_mk (by kernel_rfl)
instance : IsZero Tryz.prog 182 [.nilFunc] := isZero_mk (b := 8) (by kernel_rfl) rfl
instance : IsElem Tryz.prog 182 [.nilFunc] 8 := isElem_mk (by kernel_rfl) rfl (by simp)
instance : IsScalar Tryz.prog 183 := isScalar_mk (by kernel_rfl)
instance : HasSize Tryz.prog 183 1 := hasSize_mk (by kernel_rfl)
instance : IsZero Tryz.prog 183 [.nilFunc] := isZero_mk (b := 8) (by kernel_rfl) rfl
instance : IsElem Tryz.prog 183 [.nilFunc] 8 := isElem_mk (by kernel_rfl) rfl (by simp)
instance : IsScalar Tryz.prog 184 := isScalar_mk (by kernel_rfl)
instance : HasSize Tryz.prog 184 1 := hasSize_mk (by kernel_rfl)
instance : IsZero Tryz.prog 184 [.nilFunc] := isZero_mk (b := 8) (by kernel_rfl) rfl
instance : IsElem Tryz.prog 184 [.nilFunc] 8 := isElem_mk (by kernel_rfl) rfl (by simp)
instance : IsScalar Tryz.prog 185 := isScalar_mk (by kernel_rfl)
instance : HasSize Tryz.prog 185 1 := hasSize_mk (by kernel_rfl)
instance : IsZero Tryz.prog 185 [.nilFunc] := isZero_mk (b := 8) (by kernel_rfl) rfl
instance : IsElem Tryz.prog 185 [.nilFunc] 8 := isElem_mk (by kernel_rfl) rfl (by simp)
instance : IsScalar Tryz.prog 186 := isScalar_mk (by kernel_rfl)
instance : HasSize Tryz.prog 186 1 := hasSize_mk (by kernel_rfl)
instance : IsZero Tryz.prog 186 [.nilFunc] := isZero_mk (b := 8) (by kernel_rfl) rfl
instance : IsElem Tryz.prog 186 [.nilFunc] 8 := isElem_mk (by kernel_rfl) rfl (by simp)
instance : IsScalar Tryz.prog 187 := isScalar_mk (by kernel_rfl)
instance : HasSize Tryz.prog 187 1 := hasSize_mk (by kernel_rfl)
instance : IsZero Tryz.prog 187 [.nilFunc] := isZero_mk (b := 8) (by kernel_rfl) rfl
instance : IsElem Tryz.prog 187 [.nilFunc] 8 := isElem_mk (by kernel_rfl) rfl (by simp)
instance : IsAgg Tryz.prog 188 2 := isAgg_mk (by kernel_rfl)
instance : IsBuild Tryz.prog 188 [.bool false, .slice none 0 0] [(0, 2)] := ⟨by kernel_rfl, rfl⟩
instance : IsField Tryz.prog 188 0 0 := isField_mk (by kernel_rfl)
instance : HasSize Tryz.prog 188 2 := hasSize_mk (by kernel_rfl)
instance : IsZero Tryz.prog 188 [.bool false, .slice none 0 0] := isZero_mk (b := 32) (by kernel_rfl) rfl
instance : IsElem Tryz.prog 188 [.bool false, .slice none 0 0] 32 := isElem_mk (by kernel_rfl) rfl (by simp)
instance : IsAgg Tryz.prog 189 2 := isAgg_mk (by kernel_rfl)
instance : IsBuild Tryz.prog 189 [.bool false, .slice none 0 0] [(0, 2)] := ⟨by kernel_rfl, rfl⟩
instance : IsField Tryz.prog 189 0 0 := isField_mk (by kernel_rfl)
instance : HasSize Tryz.prog 189 2 := hasSize_mk (by kernel_rfl)
instance : IsZero Tryz.prog 189 [.bool false, .slice none 0 0] := isZero_mk (b := 32) (by kernel_rfl) rfl
instance : IsElem Tryz.prog 189 [.bool false, .slice none 0 0] 32 := isElem_mk (by kernel_rfl) rfl (by simp)
instance : IsScalar Tryz.prog 190 := isScalar_mk (by kernel_rfl)
instance : HasSize Tryz.prog 190 1 := hasSize_mk (by kernel_rfl)
instance : IsZero Tryz.prog 190 [.pointer none] := isZero_mk (b := 8) (by kernel_rfl) rfl
instance : IsElem Tryz.prog 190 [.pointer none] 8 := isElem_mk (by kernel_rfl) rfl (by simp)
instance : IsScalar Tryz.prog 191 := isScalar_mk (by kernel_rfl)
instance : HasSize Tryz.prog 191 1 := hasSize_mk (by kernel_rfl)
instance : IsZero Tryz.prog 191 [.nilFunc] := isZero_mk (b := 8) (by kernel_rfl) rfl
instance : IsElem Tryz.prog 191 [.nilFunc] 8 := isElem_mk (by kernel_rfl) rfl (by simp)
instance : IsScalar Tryz.prog 192 := isScalar_mk (by kernel_rfl)
instance : HasSize Tryz.prog 192 1 := hasSize_mk (by kernel_rfl)
instance : IsZero Tryz.prog 192 [.nilFunc] := isZero_mk (b := 8) (by kernel_rfl) rfl
instance : IsElem Tryz.prog 192 [.nilFunc] 8 := isElem_mk (by kernel_rfl) rfl (by simp)
instance : IsScalar Tryz.prog 194 := isScalar_mk (by kernel_rfl)
instance : HasSize Tryz.prog 194 1 := hasSize_mk (by kernel_rfl)
instance : IsZero Tryz.prog 194 [.nilFunc] := isZero_mk (b := 8) (by kernel_rfl) rfl
instance : IsElem Tryz.prog 194 [.nilFunc] 8 := isElem_mk (by kernel_rfl) rfl (by simp)
instance : IsScalar Tryz.prog 195 := isScalar_mk (by kernel_rfl)
instance : HasSize Tryz.prog 195 1 := hasSize_mk (by kernel_rfl)
instance : IsZero Tryz.prog 195 [.nilFunc] := isZero_mk (b := 8) (by kernel_rfl) rfl
instance : IsElem Tryz.prog 195 [.nilFunc] 8 := isElem_mk (by kernel_rfl) rfl (by simp)
instance : IsScalar Tryz.prog 196 := isScalar_mk (by kernel_rfl)
instance : HasSize Tryz.prog 196 1 := hasSize_mk (by kernel_rfl)
instance : IsZero Tryz.prog 196 [.pointer none] := isZero_mk (b := 8) (by kernel_rfl) rfl
instance : IsElem Tryz.prog 196 [.pointer none] 8 := isElem_mk (by kernel_rfl) rfl (by simp)
instance : IsAgg Tryz.prog 197 2 := isAgg_mk (by kernel_rfl)
instance : IsBuild Tryz.prog 197 [.slice none 0 0, .slice none 0 0] [(0, 1), (1, 1)] := ⟨by kernel_rfl, rfl⟩
instance : IsField Tryz.prog 197 0 0 := isField_mk (by kernel_rfl)
instance : IsField Tryz.prog 197 1 1 := isField_mk (by kernel_rfl)
instance : HasSize Tryz.prog 197 2 := hasSize_mk (by kernel_rfl)
instance : IsZero Tryz.prog 197 [.slice none 0 0, .slice none 0 0] := isZero_mk (b := 48) (by kernel_rfl) rfl
instance : IsElem Tryz.prog 197 [.slice none 0 0, .slice none 0 0] 48 := isElem_mk (by kernel_rfl) rfl (by simp)
instance : IsAgg Tryz.prog 198 2 := isAgg_mk (by kernel_rfl)
instance : IsBuild Tryz.prog 198 [.slice none 0 0, .slice none 0 0] [(0, 1), (1, 1)] := ⟨by kernel_rfl, rfl⟩
instance : IsField Tryz.prog 198 0 0 := isField_mk (by kernel_rfl)
instance : IsField Tryz.prog 198 1 1 := isField_mk (by kernel_rfl)
instance : HasSize Tryz.prog 198 2 := hasSize_mk (by kernel_rfl)
instance : IsZero Tryz.prog 198 [.slice none 0 0, .slice none 0 0] := isZero_mk (b := 48) (by kernel_rfl) rfl
instance : IsElem Tryz.prog 198 [.slice none 0 0, .slice none 0 0] 48 := isElem_mk (by kernel_rfl) rfl (by simp)
instance : IsScalar Tryz.prog 199 := isScalar_mk (by kernel_rfl)
instance : HasSize Tryz.prog 199 1 := hasSize_mk (by kernel_rfl)
instance : IsZero Tryz.prog 199 [.nilFunc] := isZero_mk (b := 8) (by kernel_rfl) rfl
instance : IsElem Tryz.prog 199 [.nilFunc] 8 := isElem_mk (by kernel_rfl) rfl (by simp)
instance : IsScalar Tryz.prog 200 := isScalar_mk (by kernel_rfl)
instance : HasSize Tryz.prog 200 1 := hasSize_mk (by kernel_rfl)
instance : IsZero Tryz.prog 200 [.nilFunc] := isZero_mk (b := 8) (by kernel_rfl) rfl
instance : IsElem Tryz.prog 200 [.nilFunc] 8 := isElem_mk (by kernel_rfl) rfl (by simp)
instance : IsScalar Tryz.prog 201 := isScalar_mk (by kernel_rfl)
instance : HasSize Tryz.prog 201 1 := hasSize_mk (by kernel_rfl)
instance : IsZero Tryz.prog 201 [.nilFunc] := isZero_mk (b := 8) (by kernel_rfl) rfl
instance : IsElem Tryz.prog 201 [.nilFunc] 8 := isElem_mk (by kernel_rfl) rfl (by simp)
instance : IsScalar Tryz.prog 202 := isScalar_mk (by kernel_rfl)
instance : HasSize Tryz.prog 202 1 := hasSize_mk (by kernel_rfl)
instance : IsZero Tryz.prog 202 [.nilFunc] := isZero_mk (b := 8) (by kernel_rfl) rfl
instance : IsElem Tryz.prog 202 [.nilFunc] 8 := isElem_mk (by kernel_rfl) rfl (by simp)
instance : IsAgg Tryz.prog 203 24 := isAgg_mk (by kernel_rfl)
instance : IsBuild Tryz.prog 203 [.int .u8 0, .int .u8 0, .int .u8 0, .int .u8 0, .int .u8 0, .int .u8 0, .int .u8 0, .int .u8 0, .int .u8 0, .int .u8 0, .int .u8 0, .int .u8 0, .int .u8 0, .int .u8 0, .int .u8 0, .int .u8 0, .int .u8 0, .int .u8 0, .int .u8 0, .int .u8 0, .int .u8 0, .int .u8 0, .int .u8 0, .int .u8 0] [(0, 1), (1, 1), (2, 1), (3, 1), (4, 1), (5, 1), (6, 1), (7, 1), (8, 1), (9, 1), (10, 1), (11, 1), (12, 1), (13, 1), (14, 1), (15, 1), (16, 1), (17, 1), (18, 1), (19, 1), (20, 1), (21, 1), (22, 1), (23, 1)] := ⟨by kernel_rfl, rfl⟩
instance : IsArr Tryz.prog 203 24 1 := ⟨5, by kernel_rfl, by kernel_rfl⟩
instance : HasSize Tryz.prog 203 24 := hasSize_mk (by kernel_rfl)
instance : IsZero Tryz.prog 203 [.int .u8 0, .int .u8 0, .int .u8 0, .int .u8 0, .int .u8 0, .int .u8 0, .int .u8 0, .int .u8 0, .int .u8 0, .int .u8 0, .int .u8 0, .int .u8 0, .int .u8 0, .int .u8 0, .int .u8 0, .int .u8 0, .int .u8 0, .int .u8 0, .int .u8 0, .int .u8 0, .int .u8 0, .int .u8 0, .int .u8 0, .int .u8 0] := isZero_mk (b := 24) (by kernel_rfl) rfl
instance : IsElem Tryz.prog 203 [.int .u8 0, .int .u8 0, .int .u8 0, .int .u8 0, .int .u8 0, .int .u8 0, .int .u8 0, .int .u8 0, .int .u8 0, .int .u8 0, .int .u8 0, .int .u8 0, .int .u8 0, .int .u8 0, .int .u8 0, .int .u8 0, .int .u8 0, .int .u8 0, .int .u8 0, .int .u8 0, .int .u8 0, .int .u8 0, .int .u8 0, .int .u8 0] 24 := isElem_mk (by kernel_rfl) rfl (by simp)
instance : IsScalar Tryz.prog 204 := isScalar_mk (by kernel_rfl)
instance : HasSize Tryz.prog 204 1 := hasSize_mk (by kernel_rfl)
instance : IsZero Tryz.prog 204 [.nilFunc] := isZero_mk (b := 8) (by kernel_rfl) rfl
instance : IsElem Tryz.prog 204 [.nilFunc] 8 := isElem_mk (by kernel_rfl) rfl (by simp)
instance : IsScalar Tryz.prog 205 := isScalar_mk (by kernel_rfl)
instance : HasSize Tryz.prog 205 1 := hasSize_mk (by kernel_rfl)
instance : IsZero Tryz.prog 205 [.nilFunc] := isZero_mk (b := 8) (by kernel_rfl) rfl
instance : IsElem Tryz.prog 205 [.nilFunc] 8 := isElem_mk (by kernel_rfl) rfl (by simp)
instance : IsScalar Tryz.prog 207 := isScalar_mk (by kernel_rfl)
instance : HasSize Tryz.prog 207 1 := hasSize_mk (by kernel_rfl)
instance : IsZero Tryz.prog 207 [.nilFunc] := isZero_mk (b := 8) (by kernel_rfl) rfl
instance : IsElem Tryz.prog 207 [.nilFunc] 8 := isElem_mk (by kernel_rfl) rfl (by simp)
instance : IsScalar Tryz.prog 209 := isScalar_mk (by kernel_rfl)
instance : HasSize Tryz.prog 209 1 := hasSize_mk (by kernel_rfl)
instance : IsZero Tryz.prog 209 [.nilFunc] := isZero_mk (b := 8) (by kernel_rfl) rfl
instance : IsElem Tryz.prog 209 [.nilFunc] 8 := isElem_mk (by kernel_rfl) rfl (by simp)
instance : IsScalar Tryz.prog 211 := isScalar_mk (by kernel_rfl)
instance : HasSize Tryz.prog 211 1 := hasSize_mk (by kernel_rfl)
instance : IsZero Tryz.prog 211 [.nilFunc] := isZero_mk (b := 8) (by kernel_rfl) rfl
instance : IsElem Tryz.prog 211 [.nilFunc] 8 := isElem_mk (by kernel_rfl) rfl (by simp)
instance : IsScalar Tryz.prog 212 := isScalar_mk (by kernel_rfl)
instance : HasSize Tryz.prog 212 1 := hasSize_mk (by kernel_rfl)
instance : IsZero Tryz.prog 212 [.nilFunc] := isZero_mk (b := 8) (by kernel_rfl) rfl
instance : IsElem Tryz.prog 212 [.nilFunc] 8 := isElem_mk (by kernel_rfl) rfl (by simp)
instance : IsScalar Tryz.prog 214 := isScalar_mk (by kernel_rfl)
instance : HasSize Tryz.prog 214 1 := hasSize_mk (by kernel_rfl)
instance : IsZero Tryz.prog 214 [.nilFunc] := isZero_mk (b := 8) (by kernel_rfl) rfl
instance : IsElem Tryz.prog 214 [.nilFunc] 8 := isElem_mk (by kernel_rfl) rfl (by simp)
instance : IsScalar Tryz.prog 215 := isScalar_mk (by kernel_rfl)
instance : HasSize Tryz.prog 215 1 := hasSize_mk (by kernel_rfl)
instance : IsZero Tryz.prog 215 [.nilFunc] := isZero_mk (b := 8) (by kernel_rfl) rfl
instance : IsElem Tryz.prog 215 [.nilFunc] 8 := isElem_mk (by kernel_rfl) rfl (by simp)
instance : IsScalar Tryz.prog 217 := isScalar_mk (by kernel_rfl)
instance : HasSize Tryz.prog 217 1 := hasSize_mk (by kernel_rfl)
instance : IsZero Tryz.prog 217 [.nilFunc] := isZero_mk (b := 8) (by kernel_rfl) rfl
instance : IsElem Tryz.prog 217 [.nilFunc] 8 := isElem_mk (by kernel_rfl) rfl (by simp)
instance : IsScalar Tryz.prog 218 := isScalar_mk (by kernel_rfl)
instance : HasSize Tryz.prog 218 1 := hasSize_mk (by kernel_rfl)
instance : IsZero Tryz.prog 218 [.nilFunc] := isZero_mk (b := 8) (by kernel_rfl) rfl
instance : IsElem Tryz.prog 218 [.nilFunc] 8 := isElem_mk (by kernel_rfl) rfl (by simp)
instance : IsScalar Tryz.prog 219 := isScalar_mk (by kernel_rfl)
instance : HasSize Tryz.prog 219 1 := hasSize_mk (by kernel_rfl)
instance : IsZero Tryz.prog 219 [.nilFunc] := isZero_mk (b := 8) (by kernel_rfl) rfl
instance : IsElem Tryz.prog 219 [.nilFunc] 8 := isElem_mk (by kernel_rfl) rfl (by simp)
instance : IsScalar Tryz.prog 220 := isScalar_mk (by kernel_rfl)
instance : HasSize Tryz.prog 220 1 := hasSize_mk (by kernel_rfl)
instance : IsZero Tryz.prog 220 [.nilFunc] := isZero_mk (b := 8) (by kernel_rfl) rfl
instance : IsElem Tryz.prog 220 [.nilFunc] 8 := isElem_mk (by kernel_rfl) rfl (by simp)
instance : IsScalar Tryz.prog 221 := isScalar_mk (by kernel_rfl)
instance : HasSize Tryz.prog 221 1 := hasSize_mk (by kernel_rfl)
instance : IsZero Tryz.prog 221 [.nilFunc] := isZero_mk (b := 8) (by kernel_rfl) rfl
instance : IsElem Tryz.prog 221 [.nilFunc] 8 := isElem_mk (by kernel_rfl) rfl (by simp)
instance : IsScalar Tryz.prog 222 := isScalar_mk (by kernel_rfl)
instance : HasSize Tryz.prog 222 1 := hasSize_mk (by kernel_rfl)
instance : IsZero Tryz.prog 222 [.nilFunc] := isZero_mk (b := 8) (by kernel_rfl) rfl
instance : IsElem Tryz.prog 222 [.nilFunc] 8 := isElem_mk (by kernel_rfl) rfl (by simp)
instance : IsScalar Tryz.prog 223 := isScalar_mk (by kernel_rfl)
instance : HasSize Tryz.prog 223 1 := hasSize_mk (by kernel_rfl)
instance : IsZero Tryz.prog 223 [.nilFunc] := isZero_mk (b := 8) (by kernel_rfl) rfl
instance : IsElem Tryz.prog 223 [.nilFunc] 8 := isElem_mk (by kernel_rfl) rfl (by simp)
instance : IsScalar Tryz.prog 224 := isScalar_mk (by kernel_rfl)
instance : HasSize Tryz.prog 224 1 := hasSize_mk (by kernel_rfl)
instance : IsZero Tryz.prog 224 [.nilFunc] := isZero_mk (b := 8) (by kernel_rfl) rfl
instance : IsElem Tryz.prog 224 [.nilFunc] 8 := isElem_mk (by kernel_rfl) rfl (by simp)
instance : IsScalar Tryz.prog 225 := isScalar_mk (by kernel_rfl)
instance : HasSize Tryz.prog 225 1 := hasSize_mk (by kernel_rfl)
instance : IsZero Tryz.prog 225 [.nilFunc] := isZero_mk (b := 8) (by kernel_rfl) rfl
instance : IsElem Tryz.prog 225 [.nilFunc] 8 := isElem_mk (by kernel_rfl) rfl (by simp)
instance : IsScalar Tryz.prog 226 := isScalar_mk (by kernel_rfl)
instance : HasSize Tryz.prog 226 1 := hasSize_mk (by kernel_rfl)
instance : IsZero Tryz.prog 226 [.nilFunc] := isZero_mk (b := 8) (by kernel_rfl) rfl
instance : IsElem Tryz.prog 226 [.nilFunc] 8 := isElem_mk (by kernel_rfl) rfl (by simp)
instance : IsScalar Tryz.prog 227 := isScalar_mk (by kernel_rfl)
instance : HasSize Tryz.prog 227 1 := hasSize_mk (by kernel_rfl)
instance : IsZero Tryz.prog 227 [.nilFunc] := isZero_mk (b := 8) (by kernel_rfl) rfl
instance : IsElem Tryz.prog 227 [.nilFunc] 8 := isElem_mk (by kernel_rfl) rfl (by simp)
instance : IsAgg Tryz.prog 228 20 := isAgg_mk (by kernel_rfl)
instance : IsBuild Tryz.prog 228 [.int .u64 0, .int .u64 0, .int .u64 0, .int .u64 0, .int .u64 0, .int .u64 0, .int .u64 0, .int .u64 0, .int .u64 0, .int .u64 0, .int .u64 0, .int .u64 0, .int .u64 0, .int .u64 0, .int .u64 0, .int .u64 0, .int .u64 0, .int .u64 0, .int .u64 0, .int .u64 0] [(0, 1), (1, 1), (2, 1), (3, 1), (4, 1), (5, 1), (6, 1), (7, 1), (8, 1), (9, 1), (10, 1), (11, 1), (12, 1), (13, 1), (14, 1), (15, 1), (16, 1), (17, 1), (18, 1), (19, 1)] := ⟨by kernel_rfl, rfl⟩
instance : IsArr Tryz.prog 228 20 1 := ⟨50, by kernel_rfl, by kernel_rfl⟩
instance : HasSize Tryz.prog 228 20 := hasSize_mk (by kernel_rfl)
instance : IsZero Tryz.prog 228 [.int .u64 0, .int .u64 0, .int .u64 0, .int .u64 0, .int .u64 0, .int .u64 0, .int .u64 0, .int .u64 0, .int .u64 0, .int .u64 0, .int .u64 0, .int .u64 0, .int .u64 0, .int .u64 0, .int .u64 0, .int .u64 0, .int .u64 0, .int .u64 0, .int .u64 0, .int .u64 0] := isZero_mk (b := 160) (by kernel_rfl) rfl
instance : IsElem Tryz.prog 228 [.int .u64 0, .int .u64 0, .int .u64 0, .int .u64 0, .int .u64 0, .int .u64 0, .int .u64 0, .int .u64 0, .int .u64 0, .int .u64 0, .int .u64 0, .int .u64 0, .int .u64 0, .int .u64 0, .int .u64 0, .int .u64 0, .int .u64 0, .int .u64 0, .int .u64 0, .int .u64 0] 160 := isElem_mk (by kernel_rfl) rfl (by simp)
instance : IsAgg Tryz.prog 229 65 := isAgg_mk (by kernel_rfl)
instance : IsArr Tryz.prog 229 65 1 := ⟨5, by kernel_rfl, by kernel_rfl⟩
instance : HasSize Tryz.prog 229 65 := hasSize_mk (by kernel_rfl)
instance : IsScalar Tryz.prog 230 := isScalar_mk (by kernel_rfl)
instance : HasSize Tryz.prog 230 1 := hasSize_mk (by kernel_rfl)
instance : IsZero Tryz.prog 230 [.nilFunc] := isZero_mk (b := 8) (by kernel_rfl) rfl
instance : IsElem Tryz.prog 230 [.nilFunc] 8 := isElem_mk (by kernel_rfl) rfl (by simp)
instance : IsScalar Tryz.prog 231 := isScalar_mk (by kernel_rfl)
instance : HasSize Tryz.prog 231 1 := hasSize_mk (by kernel_rfl)
instance : IsZero Tryz.prog 231 [.nilFunc] := isZero_mk (b := 8) (by kernel_rfl) rfl
instance : IsElem Tryz.prog 231 [.nilFunc] 8 := isElem_mk (by kernel_rfl) rfl (by simp)
instance : IsScalar Tryz.prog 232 := isScalar_mk (by kernel_rfl)
instance : HasSize Tryz.prog 232 1 := hasSize_mk (by kernel_rfl)
instance : IsZero Tryz.prog 232 [.nilFunc] := isZero_mk (b := 8) (by kernel_rfl) rfl
instance : IsElem Tryz.prog 232 [.nilFunc] 8 := isElem_mk (by kernel_rfl) rfl (by simp)
instance : IsScalar Tryz.prog 233 := isScalar_mk (by kernel_rfl)
instance : HasSize Tryz.prog 233 1 := hasSize_mk (by kernel_rfl)
instance : IsZero Tryz.prog 233 [.nilFunc] := isZero_mk (b := 8) (by kernel_rfl) rfl
instance : IsElem Tryz.prog 233 [.nilFunc] 8 := isElem_mk (by kernel_rfl) rfl (by simp)
instance : IsScalar Tryz.prog 234 := isScalar_mk (by kernel_rfl)
instance : HasSize Tryz.prog 234 1 := hasSize_mk (by kernel_rfl)
instance : IsZero Tryz.prog 234 [.nilFunc] := isZero_mk (b := 8) (by kernel_rfl) rfl
instance : IsElem Tryz.prog 234 [.nilFunc] 8 := isElem_mk (by kernel_rfl) rfl (by simp)
instance : IsScalar Tryz.prog 235 := isScalar_mk (by kernel_rfl)
instance : HasSize Tryz.prog 235 1 := hasSize_mk (by kernel_rfl)
instance : IsZero Tryz.prog 235 [.nilFunc] := isZero_mk (b := 8) (by kernel_rfl) rfl
instance : IsElem Tryz.prog 235 [.nilFunc] 8 := isElem_mk (by kernel_rfl) rfl (by simp)
instance : IsScalar Tryz.prog 236 := isScalar_mk (by kernel_rfl)
instance : HasSize Tryz.prog 236 1 := hasSize_mk (by kernel_rfl)
instance : IsZero Tryz.prog 236 [.nilFunc] := isZero_mk (b := 8) (by kernel_rfl) rfl
instance : IsElem Tryz.prog 236 [.nilFunc] 8 := isElem_mk (by kernel_rfl) rfl (by simp)
instance : IsAgg Tryz.prog 237 256 := isAgg_mk (by kernel_rfl)
instance : IsArr Tryz.prog 237 256 1 := ⟨5, by kernel_rfl, by kernel_rfl⟩
instance : HasSize Tryz.prog 237 256 := hasSize_mk (by kernel_rfl)
instance : IsAgg Tryz.prog 238 2 := isAgg_mk (by kernel_rfl)
instance : IsBuild Tryz.prog 238 [.int .u8 0, .int .u8 0] [(0, 1), (1, 1)] := ⟨by kernel_rfl, rfl⟩
instance : IsField Tryz.prog 238 0 0 := isField_mk (by kernel_rfl)
instance : IsField Tryz.prog 238 1 1 := isField_mk (by kernel_rfl)
instance : HasSize Tryz.prog 238 2 := hasSize_mk (by kernel_rfl)
instance : IsZero Tryz.prog 238 [.int .u8 0, .int .u8 0] := isZero_mk (b := 2) (by kernel_rfl) rfl
instance : IsElem Tryz.prog 238 [.int .u8 0, .int .u8 0] 2 := isElem_mk (by kernel_rfl) rfl (by simp)
instance : IsAgg Tryz.prog 239 2 := isAgg_mk (by kernel_rfl)
instance : IsBuild Tryz.prog 239 [.int .u8 0, .int .u8 0] [(0, 1), (1, 1)] := ⟨by kernel_rfl, rfl⟩
instance : IsField Tryz.prog 239 0 0 := isField_mk (by kernel_rfl)
instance : IsField Tryz.prog 239 1 1 := isField_mk (by kernel_rfl)
instance : HasSize Tryz.prog 239 2 := hasSize_mk (by kernel_rfl)
instance : IsZero Tryz.prog 239 [.int .u8 0, .int .u8 0] := isZero_mk (b := 2) (by kernel_rfl) rfl
instance : IsElem Tryz.prog 239 [.int .u8 0, .int .u8 0] 2 := isElem_mk (by kernel_rfl) rfl (by simp)
instance : IsAgg Tryz.prog 240 32 := isAgg_mk (by kernel_rfl)
instance : IsBuild Tryz.prog 240 [.int .u8 0, .int .u8 0, .int .u8 0, .int .u8 0, .int .u8 0, .int .u8 0, .int .u8 0, .int .u8 0, .int .u8 0, .int .u8 0, .int .u8 0, .int .u8 0, .int .u8 0, .int .u8 0, .int .u8 0, .int .u8 0, .int .u8 0, .int .u8 0, .int .u8 0, .int .u8 0, .int .u8 0, .int .u8 0, .int .u8 0, .int .u8 0, .int .u8 0, .int .u8 0, .int .u8 0, .int .u8 0, .int .u8 0, .int .u8 0, .int .u8 0, .int .u8 0] [(0, 2), (2, 2), (4, 2), (6, 2), (8, 2), (10, 2), (12, 2), (14, 2), (16, 2), (18, 2), (20, 2), (22, 2), (24, 2), (26, 2), (28, 2), (30, 2)] := ⟨by kernel_rfl, rfl⟩
instance : IsArr Tryz.prog 240 16 2 := ⟨239, by kernel_rfl, by kernel_rfl⟩
instance : HasSize Tryz.prog 240 32 := hasSize_mk (by kernel_rfl)
instance : IsZero Tryz.prog 240 [.int .u8 0, .int .u8 0, .int .u8 0, .int .u8 0, .int .u8 0, .int .u8 0, .int .u8 0, .int .u8 0, .int .u8 0, .int .u8 0, .int .u8 0, .int .u8 0, .int .u8 0, .int .u8 0, .int .u8 0, .int .u8 0, .int .u8 0, .int .u8 0, .int .u8 0, .int .u8 0, .int .u8 0, .int .u8 0, .int .u8 0, .int .u8 0, .int .u8 0, .int .u8 0, .int .u8 0, .int .u8 0, .int .u8 0, .int .u8 0, .int .u8 0, .int .u8 0] := isZero_mk (b := 32) (by kernel_rfl) rfl
instance : IsElem Tryz.prog 240 [.int .u8 0, .int .u8 0, .int .u8 0, .int .u8 0, .int .u8 0, .int .u8 0, .int .u8 0, .int .u8 0, .int .u8 0, .int .u8 0, .int .u8 0, .int .u8 0, .int .u8 0, .int .u8 0, .int .u8 0, .int .u8 0, .int .u8 0, .int .u8 0, .int .u8 0, .int .u8 0, .int .u8 0, .int .u8 0, .int .u8 0, .int .u8 0, .int .u8 0, .int .u8 0, .int .u8 0, .int .u8 0, .int .u8 0, .int .u8 0, .int .u8 0, .int .u8 0] 32 := isElem_mk (by kernel_rfl) rfl (by simp)
instance : IsScalar Tryz.prog 241 := isScalar_mk (by kernel_rfl)
instance : HasSize Tryz.prog 241 1 := hasSize_mk (by kernel_rfl)
instance : IsZero Tryz.prog 241 [.nilFunc] := isZero_mk (b := 8) (by kernel_rfl) rfl
instance : IsElem Tryz.prog 241 [.nilFunc] 8 := isElem_mk (by kernel_rfl) rfl (by simp)
instance : IsScalar Tryz.prog 242 := isScalar_mk (by kernel_rfl)
instance : HasSize Tryz.prog 242 1 := hasSize_mk (by kernel_rfl)
instance : IsZero Tryz.prog 242 [.nilFunc] := isZero_mk (b := 8) (by kernel_rfl) rfl
instance : IsElem Tryz.prog 242 [.nilFunc] 8 := isElem_mk (by kernel_rfl) rfl (by simp)
instance : IsAgg Tryz.prog 243 64 := isAgg_mk (by kernel_rfl)
instance : IsBuild Tryz.prog 243 [.int .u8 0, .int .u8 0, .int .u8 0, .int .u8 0, .int .u8 0, .int .u8 0, .int .u8 0, .int .u8 0, .int .u8 0, .int .u8 0, .int .u8 0, .int .u8 0, .int .u8 0, .int .u8 0, .int .u8 0, .int .u8 0, .int .u8 0, .int .u8 0, .int .u8 0, .int .u8 0, .int .u8 0, .int .u8 0, .int .u8 0, .int .u8 0, .int .u8 0, .int .u8 0, .int .u8 0, .int .u8 0, .int .u8 0, .int .u8 0, .int .u8 0, .int .u8 0, .int .u8 0, .int .u8 0, .int .u8 0, .int .u8 0, .int .u8 0, .int .u8 0, .int .u8 0, .int .u8 0, .int .u8 0, .int .u8 0, .int .u8 0, .int .u8 0, .int .u8 0, .int .u8 0, .int .u8 0, .int .u8 0, .int .u8 0, .int .u8 0, .int .u8 0, .int .u8 0, .int .u8 0, .int .u8 0, .int .u8 0, .int .u8 0, .int .u8 0, .int .u8 0, .int .u8 0, .int .u8 0, .int .u8 0, .int .u8 0, .int .u8 0, .int .u8 0] [(0, 1), (1, 1), (2, 1), (3, 1), (4, 1), (5, 1), (6, 1), (7, 1), (8, 1), (9, 1), (10, 1), (11, 1), (12, 1), (13, 1), (14, 1), (15, 1), (16, 1), (17, 1), (18, 1), (19, 1), (20, 1), (21, 1), (22, 1), (23, 1), (24, 1), (25, 1), (26, 1), (27, 1), (28, 1), (29, 1), (30, 1), (31, 1), (32, 1), (33, 1), (34, 1), (35, 1), (36, 1), (37, 1), (38, 1), (39, 1), (40, 1), (41, 1), (42, 1), (43, 1), (44, 1), (45, 1), (46, 1), (47, 1), (48, 1), (49, 1), (50, 1), (51, 1), (52, 1), (53, 1), (54, 1), (55, 1), (56, 1), (57, 1), (58, 1), (59, 1), (60, 1), (61, 1), (62, 1), (63, 1)] := ⟨by kernel_rfl, rfl⟩
instance : IsArr Tryz.prog 243 64 1 := ⟨5, by kernel_rfl, by kernel_rfl⟩
instance : HasSize Tryz.prog 243 64 := hasSize_mk (by kernel_rfl)
instance : IsZero Tryz.prog 243 [.int .u8 0, .int .u8 0, .int .u8 0, .int .u8 0, .int .u8 0, .int .u8 0, .int .u8 0, .int .u8 0, .int .u8 0, .int .u8 0, .int .u8 0, .int .u8 0, .int .u8 0, .int .u8 0, .int .u8 0, .int .u8 0, .int .u8 0, .int .u8 0, .int .u8 0, .int .u8 0, .int .u8 0, .int .u8 0, .int .u8 0, .int .u8 0, .int .u8 0, .int .u8 0, .int .u8 0, .int .u8 0, .int .u8 0, .int .u8 0, .int .u8 0, .int .u8 0, .int .u8 0, .int .u8 0, .int .u8 0, .int .u8 0, .int .u8 0, .int .u8 0, .int .u8 0, .int .u8 0, .int .u8 0, .int .u8 0, .int .u8 0, .int .u8 0, .int .u8 0, .int .u8 0, .int .u8 0, .int .u8 0, .int .u8 0, .int .u8 0, .int .u8 0, .int .u8 0, .int .u8 0, .int .u8 0, .int .u8 0, .int .u8 0, .int .u8 0, .int .u8 0, .int .u8 0, .int .u8 0, .int .u8 0, .int .u8 0, .int .u8 0, .int .u8 0] := isZero_mk (b := 64) (by kernel_rfl) rfl
instance : IsElem Tryz.prog 243 [.int .u8 0, .int .u8 0, .int .u8 0, .int .u8 0, .int .u8 0, .int .u8 0, .int .u8 0, .int .u8 0, .int .u8 0, .int .u8 0, .int .u8 0, .int .u8 0, .int .u8 0, .int .u8 0, .int .u8 0, .int .u8 0, .int .u8 0, .int .u8 0, .int .u8 0, .int .u8 0, .int .u8 0, .int .u8 0, .int .u8 0, .int .u8 0, .int .u8 0, .int .u8 0, .int .u8 0, .int .u8 0, .int .u8 0, .int .u8 0, .int .u8 0, .int .u8 0, .int .u8 0, .int .u8 0, .int .u8 0, .int .u8 0, .int .u8 0, .int .u8 0, .int .u8 0, .int .u8 0, .int .u8 0, .int .u8 0, .int .u8 0, .int .u8 0, .int .u8 0, .int .u8 0, .int .u8 0, .int .u8 0, .int .u8 0, .int .u8 0, .int .u8 0, .int .u8 0, .int .u8 0, .int .u8 0, .int .u8 0, .int .u8 0, .int .u8 0, .int .u8 0, .int .u8 0, .int .u8 0, .int .u8 0, .int .u8 0, .int .u8 0, .int .u8 0] 64 := isElem_mk (by kernel_rfl) rfl (by simp)
instance : IsAgg Tryz.prog 244 32 := isAgg_mk (by kernel_rfl)
instance : IsBuild Tryz.prog 244 [.int .u8 0, .int .u8 0, .int .u8 0, .int .u8 0, .int .u8 0, .int .u8 0, .int .u8 0, .int .u8 0, .int .u8 0, .int .u8 0, .int .u8 0, .int .u8 0, .int .u8 0, .int .u8 0, .int .u8 0, .int .u8 0, .int .u8 0, .int .u8 0, .int .u8 0, .int .u8 0, .int .u8 0, .int .u8 0, .int .u8 0, .int .u8 0, .int .u8 0, .int .u8 0, .int .u8 0, .int .u8 0, .int .u8 0, .int .u8 0, .int .u8 0, .int .u8 0] [(0, 1), (1, 1), (2, 1), (3, 1), (4, 1), (5, 1), (6, 1), (7, 1), (8, 1), (9, 1), (10, 1), (11, 1), (12, 1), (13, 1), (14, 1), (15, 1), (16, 1), (17, 1), (18, 1), (19, 1), (20, 1), (21, 1), (22, 1), (23, 1), (24, 1), (25, 1), (26, 1), (27, 1), (28, 1), (29, 1), (30, 1), (31, 1)] := ⟨by kernel_rfl, rfl⟩
instance : IsArr Tryz.prog 244 32 1 := ⟨5, by kernel_rfl, by kernel_rfl⟩
instance : HasSize Tryz.prog 244 32 := hasSize_mk (by kernel_rfl)
instance : IsZero Tryz.prog 244 [.int .u8 0, .int .u8 0, .int .u8 0, .int .u8 0, .int .u8 0, .int .u8 0, .int .u8 0, .int .u8 0, .int .u8 0, .int .u8 0, .int .u8 0, .int .u8 0, .int .u8 0, .int .u8 0, .int .u8 0, .int .u8 0, .int .u8 0, .int .u8 0, .int .u8 0, .int .u8 0, .int .u8 0, .int .u8 0, .int .u8 0, .int .u8 0, .int .u8 0, .int .u8 0, .int .u8 0, .int .u8 0, .int .u8 0, .int .u8 0, .int .u8 0, .int .u8 0] := isZero_mk (b := 32) (by kernel_rfl) rfl
instance : IsElem Tryz.prog 244 [.int .u8 0, .int .u8 0, .int .u8 0, .int .u8 0, .int .u8 0, .int .u8 0, .int .u8 0, .int .u8 0, .int .u8 0, .int .u8 0, .int .u8 0, .int .u8 0, .int .u8 0, .int .u8 0, .int .u8 0, .int .u8 0, .int .u8 0, .int .u8 0, .int .u8 0, .int .u8 0, .int .u8 0, .int .u8 0, .int .u8 0, .int .u8 0, .int .u8 0, .int .u8 0, .int .u8 0, .int .u8 0, .int .u8 0, .int .u8 0, .int .u8 0, .int .u8 0] 32 := isElem_mk (by kernel_rfl) rfl (by simp)
instance : IsAgg Tryz.prog 245 3 := isAgg_mk (by kernel_rfl)
instance : IsBuild Tryz.prog 245 [.int .i64 0, .int .i64 0, .int .i64 0] [(0, 1), (1, 1), (2, 1)] := ⟨by kernel_rfl, rfl⟩
instance : IsArr Tryz.prog 245 3 1 := ⟨3, by kernel_rfl, by kernel_rfl⟩
instance : HasSize Tryz.prog 245 3 := hasSize_mk (by kernel_rfl)
instance : IsZero Tryz.prog 245 [.int .i64 0, .int .i64 0, .int .i64 0] := isZero_mk (b := 24) (by kernel_rfl) rfl
instance : IsElem Tryz.prog 245 [.int .i64 0, .int .i64 0, .int .i64 0] 24 := isElem_mk (by kernel_rfl) rfl (by simp)
instance : IsScalar Tryz.prog 253 := isScalar_mk (by kernel_rfl)
instance : HasSize Tryz.prog 253 1 := hasSize_mk (by kernel_rfl)
instance : IsZero Tryz.prog 253 [.nilFunc] := isZero_mk (b := 8) (by kernel_rfl) rfl
instance : IsElem Tryz.prog 253 [.nilFunc] 8 := isElem_mk (by kernel_rfl) rfl (by simp)
end Go.Proofs
