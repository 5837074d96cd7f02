/- The facts on the types of this translation, each by the kernel. Written by gentypes.py. -/
import Derived.Test.YtofplgefmjojjaaGreatDoorSvv
import Derived.Test.YtofplgefmjojjaaGreatDoorProg
import Derived.KernelRfl
namespace Go.Proofs
open Go Go.Sv
instance : Mixed Tryz.prog := ⟨by kernel_rfl⟩
instance : IsScalar Tryz.prog 1 := isScalar_mk (by kernel_rfl)
instance : HasSize Tryz.prog 1 1 := hasSize_mk (by kernel_rfl)
instance : IsZero Tryz.prog 1 [.nilFunc] := isZero_mk (b := 8) (by kernel_rfl) rfl
instance : IsElem Tryz.prog 1 [.nilFunc] 8 := isElem_mk (by kernel_rfl) rfl (by simp)
instance : IsScalar Tryz.prog 2 := isScalar_mk (by kernel_rfl)
instance : IsInt Tryz.prog 2 .i64 := ⟨by kernel_rfl⟩
instance : HasTy Tryz.prog 2 := ⟨by kernel_rfl⟩
instance : HasSize Tryz.prog 2 1 := hasSize_mk (by kernel_rfl)
instance : IsZero Tryz.prog 2 [.int .i64 0] := isZero_mk (b := 8) (by kernel_rfl) rfl
instance : IsElem Tryz.prog 2 [.int .i64 0] 8 := isElem_mk (by kernel_rfl) rfl (by simp)
instance : IsScalar Tryz.prog 3 := isScalar_mk (by kernel_rfl)
instance : IsInt Tryz.prog 3 .i64 := ⟨by kernel_rfl⟩
instance : HasTy Tryz.prog 3 := ⟨by kernel_rfl⟩
instance : HasSize Tryz.prog 3 1 := hasSize_mk (by kernel_rfl)
instance : IsZero Tryz.prog 3 [.int .i64 0] := isZero_mk (b := 8) (by kernel_rfl) rfl
instance : IsElem Tryz.prog 3 [.int .i64 0] 8 := isElem_mk (by kernel_rfl) rfl (by simp)
instance : IsScalar Tryz.prog 4 := isScalar_mk (by kernel_rfl)
theorem Tryz.isBool4 : Tryz.prog.underlying 4 = some .bool := by kernel_rfl
instance : HasSize Tryz.prog 4 1 := hasSize_mk (by kernel_rfl)
instance : IsZero Tryz.prog 4 [.bool false] := isZero_mk (b := 1) (by kernel_rfl) rfl
instance : IsElem Tryz.prog 4 [.bool false] 1 := isElem_mk (by kernel_rfl) rfl (by simp)
instance : IsScalar Tryz.prog 5 := isScalar_mk (by kernel_rfl)
instance : IsInt Tryz.prog 5 .u8 := ⟨by kernel_rfl⟩
instance : HasTy Tryz.prog 5 := ⟨by kernel_rfl⟩
instance : HasSize Tryz.prog 5 1 := hasSize_mk (by kernel_rfl)
instance : IsZero Tryz.prog 5 [.int .u8 0] := isZero_mk (b := 1) (by kernel_rfl) rfl
instance : IsElem Tryz.prog 5 [.int .u8 0] 1 := isElem_mk (by kernel_rfl) rfl (by simp)
instance : IsScalar Tryz.prog 9 := isScalar_mk (by kernel_rfl)
instance : IsStr Tryz.prog 9 := ⟨by kernel_rfl⟩
instance : HasSize Tryz.prog 9 1 := hasSize_mk (by kernel_rfl)
instance : IsZero Tryz.prog 9 [.string ⟨#[]⟩] := isZero_mk (b := 16) (by kernel_rfl) rfl
instance : IsElem Tryz.prog 9 [.string ⟨#[]⟩] 16 := isElem_mk (by kernel_rfl) rfl (by simp)
instance : IsScalar Tryz.prog 12 := isScalar_mk (by kernel_rfl)
instance : IsInt Tryz.prog 12 .u64 := ⟨by kernel_rfl⟩
instance : HasTy Tryz.prog 12 := ⟨by kernel_rfl⟩
instance : HasSize Tryz.prog 12 1 := hasSize_mk (by kernel_rfl)
instance : IsZero Tryz.prog 12 [.int .u64 0] := isZero_mk (b := 8) (by kernel_rfl) rfl
instance : IsElem Tryz.prog 12 [.int .u64 0] 8 := isElem_mk (by kernel_rfl) rfl (by simp)
instance : IsAgg Tryz.prog 13 2 := isAgg_mk (by kernel_rfl)
instance : IsBuild Tryz.prog 13 [.string ⟨#[]⟩, .int .u64 0] [(0, 1), (1, 1)] := ⟨by kernel_rfl, rfl⟩
instance : IsField Tryz.prog 13 0 0 := isField_mk (by kernel_rfl)
instance : IsField Tryz.prog 13 1 1 := isField_mk (by kernel_rfl)
instance : HasSize Tryz.prog 13 2 := hasSize_mk (by kernel_rfl)
instance : IsZero Tryz.prog 13 [.string ⟨#[]⟩, .int .u64 0] := isZero_mk (b := 24) (by kernel_rfl) rfl
instance : IsElem Tryz.prog 13 [.string ⟨#[]⟩, .int .u64 0] 24 := isElem_mk (by kernel_rfl) rfl (by simp)
instance : IsScalar Tryz.prog 21 := isScalar_mk (by kernel_rfl)
instance : IsInt Tryz.prog 21 .i32 := ⟨by kernel_rfl⟩
instance : HasTy Tryz.prog 21 := ⟨by kernel_rfl⟩
instance : HasSize Tryz.prog 21 1 := hasSize_mk (by kernel_rfl)
instance : IsZero Tryz.prog 21 [.int .i32 0] := isZero_mk (b := 4) (by kernel_rfl) rfl
instance : IsElem Tryz.prog 21 [.int .i32 0] 4 := isElem_mk (by kernel_rfl) rfl (by simp)
instance : IsScalar Tryz.prog 22 := isScalar_mk (by kernel_rfl)
instance : IsSl Tryz.prog 22 30 6 := isSl_mk (by kernel_rfl) (by kernel_rfl)
instance : HasSize Tryz.prog 22 1 := hasSize_mk (by kernel_rfl)
instance : IsZero Tryz.prog 22 [.slice none 0 0] := isZero_mk (b := 24) (by kernel_rfl) rfl
instance : IsElem Tryz.prog 22 [.slice none 0 0] 24 := isElem_mk (by kernel_rfl) rfl (by simp)
instance : IsScalar Tryz.prog 23 := isScalar_mk (by kernel_rfl)
instance : IsSl Tryz.prog 23 93 1 := isSl_mk (by kernel_rfl) (by kernel_rfl)
instance : HasSize Tryz.prog 23 1 := hasSize_mk (by kernel_rfl)
instance : IsZero Tryz.prog 23 [.slice none 0 0] := isZero_mk (b := 24) (by kernel_rfl) rfl
instance : IsElem Tryz.prog 23 [.slice none 0 0] 24 := isElem_mk (by kernel_rfl) rfl (by simp)
instance : IsScalar Tryz.prog 24 := isScalar_mk (by kernel_rfl)
instance : IsSl Tryz.prog 24 93 1 := isSl_mk (by kernel_rfl) (by kernel_rfl)
instance : HasSize Tryz.prog 24 1 := hasSize_mk (by kernel_rfl)
instance : IsZero Tryz.prog 24 [.slice none 0 0] := isZero_mk (b := 24) (by kernel_rfl) rfl
instance : IsElem Tryz.prog 24 [.slice none 0 0] 24 := isElem_mk (by kernel_rfl) rfl (by simp)
instance : IsAgg Tryz.prog 25 2 := isAgg_mk (by kernel_rfl)
instance : IsBuild Tryz.prog 25 [.bool false, .slice none 0 0] [(0, 1), (1, 1)] := ⟨by kernel_rfl, rfl⟩
instance : IsField Tryz.prog 25 0 0 := isField_mk (by kernel_rfl)
instance : IsField Tryz.prog 25 1 1 := isField_mk (by kernel_rfl)
instance : HasSize Tryz.prog 25 2 := hasSize_mk (by kernel_rfl)
instance : IsZero Tryz.prog 25 [.bool false, .slice none 0 0] := isZero_mk (b := 32) (by kernel_rfl) rfl
instance : IsElem Tryz.prog 25 [.bool false, .slice none 0 0] 32 := isElem_mk (by kernel_rfl) rfl (by simp)
instance : IsAgg Tryz.prog 26 2 := isAgg_mk (by kernel_rfl)
instance : IsBuild Tryz.prog 26 [.bool false, .slice none 0 0] [(0, 1), (1, 1)] := ⟨by kernel_rfl, rfl⟩
instance : IsField Tryz.prog 26 0 0 := isField_mk (by kernel_rfl)
instance : IsField Tryz.prog 26 1 1 := isField_mk (by kernel_rfl)
instance : HasSize Tryz.prog 26 2 := hasSize_mk (by kernel_rfl)
instance : IsZero Tryz.prog 26 [.bool false, .slice none 0 0] := isZero_mk (b := 32) (by kernel_rfl) rfl
instance : IsElem Tryz.prog 26 [.bool false, .slice none 0 0] 32 := isElem_mk (by kernel_rfl) rfl (by simp)
instance : IsAgg Tryz.prog 27 3 := isAgg_mk (by kernel_rfl)
instance : IsBuild Tryz.prog 27 [.bool false, .slice none 0 0, .slice none 0 0] [(0, 2), (2, 1)] := ⟨by kernel_rfl, rfl⟩
instance : IsField Tryz.prog 27 0 0 := isField_mk (by kernel_rfl)
instance : IsField Tryz.prog 27 1 2 := isField_mk (by kernel_rfl)
instance : HasSize Tryz.prog 27 3 := hasSize_mk (by kernel_rfl)
instance : IsZero Tryz.prog 27 [.bool false, .slice none 0 0, .slice none 0 0] := isZero_mk (b := 56) (by kernel_rfl) rfl
instance : IsElem Tryz.prog 27 [.bool false, .slice none 0 0, .slice none 0 0] 56 := isElem_mk (by kernel_rfl) rfl (by simp)
instance : IsAgg Tryz.prog 28 3 := isAgg_mk (by kernel_rfl)
instance : IsBuild Tryz.prog 28 [.bool false, .slice none 0 0, .slice none 0 0] [(0, 2), (2, 1)] := ⟨by kernel_rfl, rfl⟩
instance : IsField Tryz.prog 28 0 0 := isField_mk (by kernel_rfl)
instance : IsField Tryz.prog 28 1 2 := isField_mk (by kernel_rfl)
instance : HasSize Tryz.prog 28 3 := hasSize_mk (by kernel_rfl)
instance : IsZero Tryz.prog 28 [.bool false, .slice none 0 0, .slice none 0 0] := isZero_mk (b := 56) (by kernel_rfl) rfl
instance : IsElem Tryz.prog 28 [.bool false, .slice none 0 0, .slice none 0 0] 56 := isElem_mk (by kernel_rfl) rfl (by simp)
instance : IsAgg Tryz.prog 29 6 := isAgg_mk (by kernel_rfl)
instance : IsBuild Tryz.prog 29 [.bool false, .slice none 0 0, .slice none 0 0, .bool false, .slice none 0 0, .slice none 0 0] [(0, 3), (3, 3)] := ⟨by kernel_rfl, rfl⟩
instance : IsField Tryz.prog 29 0 0 := isField_mk (by kernel_rfl)
instance : IsField Tryz.prog 29 1 3 := isField_mk (by kernel_rfl)
instance : HasSize Tryz.prog 29 6 := hasSize_mk (by kernel_rfl)
instance : IsZero Tryz.prog 29 [.bool false, .slice none 0 0, .slice none 0 0, .bool false, .slice none 0 0, .slice none 0 0] := isZero_mk (b := 112) (by kernel_rfl) rfl
instance : IsElem Tryz.prog 29 [.bool false, .slice none 0 0, .slice none 0 0, .bool false, .slice none 0 0, .slice none 0 0] 112 := isElem_mk (by kernel_rfl) rfl (by simp)
instance : IsAgg Tryz.prog 30 6 := isAgg_mk (by kernel_rfl)
instance : IsBuild Tryz.prog 30 [.bool false, .slice none 0 0, .slice none 0 0, .bool false, .slice none 0 0, .slice none 0 0] [(0, 3), (3, 3)] := ⟨by kernel_rfl, rfl⟩
instance : IsField Tryz.prog 30 0 0 := isField_mk (by kernel_rfl)
instance : IsField Tryz.prog 30 1 3 := isField_mk (by kernel_rfl)
instance : HasSize Tryz.prog 30 6 := hasSize_mk (by kernel_rfl)
instance : IsZero Tryz.prog 30 [.bool false, .slice none 0 0, .slice none 0 0, .bool false, .slice none 0 0, .slice none 0 0] := isZero_mk (b := 112) (by kernel_rfl) rfl
instance : IsElem Tryz.prog 30 [.bool false, .slice none 0 0, .slice none 0 0, .bool false, .slice none 0 0, .slice none 0 0] 112 := isElem_mk (by kernel_rfl) rfl (by simp)
instance : IsScalar Tryz.prog 31 := isScalar_mk (by kernel_rfl)
instance : HasSize Tryz.prog 31 1 := hasSize_mk (by kernel_rfl)
instance : IsZero Tryz.prog 31 [.nilFunc] := isZero_mk (b := 8) (by kernel_rfl) rfl
instance : IsElem Tryz.prog 31 [.nilFunc] 8 := isElem_mk (by kernel_rfl) rfl (by simp)
instance : IsScalar Tryz.prog 32 := isScalar_mk (by kernel_rfl)
instance : HasSize Tryz.prog 32 1 := hasSize_mk (by kernel_rfl)
instance : IsZero Tryz.prog 32 [.nilFunc] := isZero_mk (b := 8) (by kernel_rfl) rfl
instance : IsElem Tryz.prog 32 [.nilFunc] 8 := isElem_mk (by kernel_rfl) rfl (by simp)
instance : IsScalar Tryz.prog 33 := isScalar_mk (by kernel_rfl)
instance : HasSize Tryz.prog 33 1 := hasSize_mk (by kernel_rfl)
instance : IsZero Tryz.prog 33 [.nilFunc] := isZero_mk (b := 8) (by kernel_rfl) rfl
instance : IsElem Tryz.prog 33 [.nilFunc] 8 := isElem_mk (by kernel_rfl) rfl (by simp)
instance : IsScalar Tryz.prog 34 := isScalar_mk (by kernel_rfl)
instance : HasSize Tryz.prog 34 1 := hasSize_mk (by kernel_rfl)
instance : IsZero Tryz.prog 34 [.nilFunc] := isZero_mk (b := 8) (by kernel_rfl) rfl
instance : IsElem Tryz.prog 34 [.nilFunc] 8 := isElem_mk (by kernel_rfl) rfl (by simp)
instance : IsScalar Tryz.prog 35 := isScalar_mk (by kernel_rfl)
instance : HasSize Tryz.prog 35 1 := hasSize_mk (by kernel_rfl)
instance : IsZero Tryz.prog 35 [.nilFunc] := isZero_mk (b := 8) (by kernel_rfl) rfl
instance : IsElem Tryz.prog 35 [.nilFunc] 8 := isElem_mk (by kernel_rfl) rfl (by simp)
instance : IsScalar Tryz.prog 36 := isScalar_mk (by kernel_rfl)
instance : HasSize Tryz.prog 36 1 := hasSize_mk (by kernel_rfl)
instance : IsZero Tryz.prog 36 [.nilFunc] := isZero_mk (b := 8) (by kernel_rfl) rfl
instance : IsElem Tryz.prog 36 [.nilFunc] 8 := isElem_mk (by kernel_rfl) rfl (by simp)
instance : IsScalar Tryz.prog 37 := isScalar_mk (by kernel_rfl)
instance : HasSize Tryz.prog 37 1 := hasSize_mk (by kernel_rfl)
instance : IsZero Tryz.prog 37 [.nilFunc] := isZero_mk (b := 8) (by kernel_rfl) rfl
instance : IsElem Tryz.prog 37 [.nilFunc] 8 := isElem_mk (by kernel_rfl) rfl (by simp)
instance : IsScalar Tryz.prog 38 := isScalar_mk (by kernel_rfl)
instance : HasSize Tryz.prog 38 1 := hasSize_mk (by kernel_rfl)
instance : IsZero Tryz.prog 38 [.nilFunc] := isZero_mk (b := 8) (by kernel_rfl) rfl
instance : IsElem Tryz.prog 38 [.nilFunc] 8 := isElem_mk (by kernel_rfl) rfl (by simp)
instance : IsScalar Tryz.prog 39 := isScalar_mk (by kernel_rfl)
instance : IsSl Tryz.prog 39 3 1 := isSl_mk (by kernel_rfl) (by kernel_rfl)
instance : HasSize Tryz.prog 39 1 := hasSize_mk (by kernel_rfl)
instance : IsZero Tryz.prog 39 [.slice none 0 0] := isZero_mk (b := 24) (by kernel_rfl) rfl
instance : IsElem Tryz.prog 39 [.slice none 0 0] 24 := isElem_mk (by kernel_rfl) rfl (by simp)
instance : IsScalar Tryz.prog 40 := isScalar_mk (by kernel_rfl)
instance : HasSize Tryz.prog 40 1 := hasSize_mk (by kernel_rfl)
instance : IsZero Tryz.prog 40 [.nilFunc] := isZero_mk (b := 8) (by kernel_rfl) rfl
instance : IsElem Tryz.prog 40 [.nilFunc] 8 := isElem_mk (by kernel_rfl) rfl (by simp)
instance : IsScalar Tryz.prog 42 := isScalar_mk (by kernel_rfl)
instance : HasSize Tryz.prog 42 1 := hasSize_mk (by kernel_rfl)
instance : IsZero Tryz.prog 42 [.nilFunc] := isZero_mk (b := 8) (by kernel_rfl) rfl
instance : IsElem Tryz.prog 42 [.nilFunc] 8 := isElem_mk (by kernel_rfl) rfl (by simp)
instance : IsScalar Tryz.prog 43 := isScalar_mk (by kernel_rfl)
instance : HasSize Tryz.prog 43 1 := hasSize_mk (by kernel_rfl)
instance : IsZero Tryz.prog 43 [.nilFunc] := isZero_mk (b := 8) (by kernel_rfl) rfl
instance : IsElem Tryz.prog 43 [.nilFunc] 8 := isElem_mk (by kernel_rfl) rfl (by simp)
instance : IsScalar Tryz.prog 44 := isScalar_mk (by kernel_rfl)
instance : HasSize Tryz.prog 44 1 := hasSize_mk (by kernel_rfl)
instance : IsZero Tryz.prog 44 [.nilFunc] := isZero_mk (b := 8) (by kernel_rfl) rfl
instance : IsElem Tryz.prog 44 [.nilFunc] 8 := isElem_mk (by kernel_rfl) rfl (by simp)
instance : IsScalar Tryz.prog 45 := isScalar_mk (by kernel_rfl)
instance : HasSize Tryz.prog 45 1 := hasSize_mk (by kernel_rfl)
instance : IsZero Tryz.prog 45 [.nilFunc] := isZero_mk (b := 8) (by kernel_rfl) rfl
instance : IsElem Tryz.prog 45 [.nilFunc] 8 := isElem_mk (by kernel_rfl) rfl (by simp)
instance : IsScalar Tryz.prog 46 := isScalar_mk (by kernel_rfl)
instance : HasSize Tryz.prog 46 1 := hasSize_mk (by kernel_rfl)
instance : IsZero Tryz.prog 46 [.nilFunc] := isZero_mk (b := 8) (by kernel_rfl) rfl
instance : IsElem Tryz.prog 46 [.nilFunc] 8 := isElem_mk (by kernel_rfl) rfl (by simp)
instance : IsScalar Tryz.prog 47 := isScalar_mk (by kernel_rfl)
instance : HasSize Tryz.prog 47 1 := hasSize_mk (by kernel_rfl)
instance : IsZero Tryz.prog 47 [.nilFunc] := isZero_mk (b := 8) (by kernel_rfl) rfl
instance : IsElem Tryz.prog 47 [.nilFunc] 8 := isElem_mk (by kernel_rfl) rfl (by simp)
instance : IsScalar Tryz.prog 48 := isScalar_mk (by kernel_rfl)
instance : HasSize Tryz.prog 48 1 := hasSize_mk (by kernel_rfl)
instance : IsZero Tryz.prog 48 [.nilFunc] := isZero_mk (b := 8) (by kernel_rfl) rfl
instance : IsElem Tryz.prog 48 [.nilFunc] 8 := isElem_mk (by kernel_rfl) rfl (by simp)
instance : IsScalar Tryz.prog 49 := isScalar_mk (by kernel_rfl)
instance : HasSize Tryz.prog 49 1 := hasSize_mk (by kernel_rfl)
instance : IsZero Tryz.prog 49 [.nilFunc] := isZero_mk (b := 8) (by kernel_rfl) rfl
instance : IsElem Tryz.prog 49 [.nilFunc] 8 := isElem_mk (by kernel_rfl) rfl (by simp)
instance : IsScalar Tryz.prog 50 := isScalar_mk (by kernel_rfl)
instance : HasSize Tryz.prog 50 1 := hasSize_mk (by kernel_rfl)
instance : IsZero Tryz.prog 50 [.nilFunc] := isZero_mk (b := 8) (by kernel_rfl) rfl
instance : IsElem Tryz.prog 50 [.nilFunc] 8 := isElem_mk (by kernel_rfl) rfl (by simp)
instance : IsScalar Tryz.prog 51 := isScalar_mk (by kernel_rfl)
instance : IsSl Tryz.prog 51 22 1 := isSl_mk (by kernel_rfl) (by kernel_rfl)
instance : HasSize Tryz.prog 51 1 := hasSize_mk (by kernel_rfl)
instance : IsZero Tryz.prog 51 [.slice none 0 0] := isZero_mk (b := 24) (by kernel_rfl) rfl
instance : IsElem Tryz.prog 51 [.slice none 0 0] 24 := isElem_mk (by kernel_rfl) rfl (by simp)
instance : IsScalar Tryz.prog 52 := isScalar_mk (by kernel_rfl)
instance : IsSl Tryz.prog 52 69 12 := isSl_mk (by kernel_rfl) (by kernel_rfl)
instance : HasSize Tryz.prog 52 1 := hasSize_mk (by kernel_rfl)
instance : IsZero Tryz.prog 52 [.slice none 0 0] := isZero_mk (b := 24) (by kernel_rfl) rfl
instance : IsElem Tryz.prog 52 [.slice none 0 0] 24 := isElem_mk (by kernel_rfl) rfl (by simp)
instance : IsAgg Tryz.prog 53 3 := isAgg_mk (by kernel_rfl)
instance : IsBuild Tryz.prog 53 [.slice none 0 0, .slice none 0 0, .slice none 0 0] [(0, 1), (1, 1), (2, 1)] := ⟨by kernel_rfl, rfl⟩
instance : IsField Tryz.prog 53 0 0 := isField_mk (by kernel_rfl)
instance : IsField Tryz.prog 53 1 1 := isField_mk (by kernel_rfl)
instance : IsField Tryz.prog 53 2 2 := isField_mk (by kernel_rfl)
instance : HasSize Tryz.prog 53 3 := hasSize_mk (by kernel_rfl)
instance : IsZero Tryz.prog 53 [.slice none 0 0, .slice none 0 0, .slice none 0 0] := isZero_mk (b := 72) (by kernel_rfl) rfl
instance : IsElem Tryz.prog 53 [.slice none 0 0, .slice none 0 0, .slice none 0 0] 72 := isElem_mk (by kernel_rfl) rfl (by simp)
instance : IsAgg Tryz.prog 54 3 := isAgg_mk (by kernel_rfl)
instance : IsBuild Tryz.prog 54 [.slice none 0 0, .slice none 0 0, .slice none 0 0] [(0, 1), (1, 1), (2, 1)] := ⟨by kernel_rfl, rfl⟩
instance : IsField Tryz.prog 54 0 0 := isField_mk (by kernel_rfl)
instance : IsField Tryz.prog 54 1 1 := isField_mk (by kernel_rfl)
instance : IsField Tryz.prog 54 2 2 := isField_mk (by kernel_rfl)
instance : HasSize Tryz.prog 54 3 := hasSize_mk (by kernel_rfl)
instance : IsZero Tryz.prog 54 [.slice none 0 0, .slice none 0 0, .slice none 0 0] := isZero_mk (b := 72) (by kernel_rfl) rfl
instance : IsElem Tryz.prog 54 [.slice none 0 0, .slice none 0 0, .slice none 0 0] 72 := isElem_mk (by kernel_rfl) rfl (by simp)
instance : IsScalar Tryz.prog 55 := isScalar_mk (by kernel_rfl)
instance : HasSize Tryz.prog 55 1 := hasSize_mk (by kernel_rfl)
instance : IsZero Tryz.prog 55 [.nilFunc] := isZero_mk (b := 8) (by kernel_rfl) rfl
instance : IsElem Tryz.prog 55 [.nilFunc] 8 := isElem_mk (by kernel_rfl) rfl (by simp)
instance : IsScalar Tryz.prog 57 := isScalar_mk (by kernel_rfl)
instance : HasSize Tryz.prog 57 1 := hasSize_mk (by kernel_rfl)
instance : IsZero Tryz.prog 57 [.nilFunc] := isZero_mk (b := 8) (by kernel_rfl) rfl
instance : IsElem Tryz.prog 57 [.nilFunc] 8 := isElem_mk (by kernel_rfl) rfl (by simp)
instance : IsScalar Tryz.prog 58 := isScalar_mk (by kernel_rfl)
instance : HasSize Tryz.prog 58 1 := hasSize_mk (by kernel_rfl)
instance : IsZero Tryz.prog 58 [.nilFunc] := isZero_mk (b := 8) (by kernel_rfl) rfl
instance : IsElem Tryz.prog 58 [.nilFunc] 8 := isElem_mk (by kernel_rfl) rfl (by simp)
instance : IsScalar Tryz.prog 59 := isScalar_mk (by kernel_rfl)
instance : HasSize Tryz.prog 59 1 := hasSize_mk (by kernel_rfl)
instance : IsZero Tryz.prog 59 [.nilFunc] := isZero_mk (b := 8) (by kernel_rfl) rfl
instance : IsElem Tryz.prog 59 [.nilFunc] 8 := isElem_mk (by kernel_rfl) rfl (by simp)
instance : IsScalar Tryz.prog 60 := isScalar_mk (by kernel_rfl)
instance : HasSize Tryz.prog 60 1 := hasSize_mk (by kernel_rfl)
instance : IsZero Tryz.prog 60 [.nilFunc] := isZero_mk (b := 8) (by kernel_rfl) rfl
instance : IsElem Tryz.prog 60 [.nilFunc] 8 := isElem_mk (by kernel_rfl) rfl (by simp)
instance : IsScalar Tryz.prog 61 := isScalar_mk (by kernel_rfl)
instance : HasSize Tryz.prog 61 1 := hasSize_mk (by kernel_rfl)
instance : IsZero Tryz.prog 61 [.nilFunc] := isZero_mk (b := 8) (by kernel_rfl) rfl
instance : IsElem Tryz.prog 61 [.nilFunc] 8 := isElem_mk (by kernel_rfl) rfl (by simp)
instance : IsScalar Tryz.prog 62 := isScalar_mk (by kernel_rfl)
instance : HasSize Tryz.prog 62 1 := hasSize_mk (by kernel_rfl)
instance : IsZero Tryz.prog 62 [.nilFunc] := isZero_mk (b := 8) (by kernel_rfl) rfl
instance : IsElem Tryz.prog 62 [.nilFunc] 8 := isElem_mk (by kernel_rfl) rfl (by simp)
instance : IsScalar Tryz.prog 63 := isScalar_mk (by kernel_rfl)
instance : HasSize Tryz.prog 63 1 := hasSize_mk (by kernel_rfl)
instance : IsZero Tryz.prog 63 [.nilFunc] := isZero_mk (b := 8) (by kernel_rfl) rfl
instance : IsElem Tryz.prog 63 [.nilFunc] 8 := isElem_mk (by kernel_rfl) rfl (by simp)
instance : IsScalar Tryz.prog 64 := isScalar_mk (by kernel_rfl)
instance : HasSize Tryz.prog 64 1 := hasSize_mk (by kernel_rfl)
instance : IsZero Tryz.prog 64 [.nilFunc] := isZero_mk (b := 8) (by kernel_rfl) rfl
instance : IsElem Tryz.prog 64 [.nilFunc] 8 := isElem_mk (by kernel_rfl) rfl (by simp)
instance : IsScalar Tryz.prog 65 := isScalar_mk (by kernel_rfl)
instance : HasSize Tryz.prog 65 1 := hasSize_mk (by kernel_rfl)
instance : IsZero Tryz.prog 65 [.nilFunc] := isZero_mk (b := 8) (by kernel_rfl) rfl
instance : IsElem Tryz.prog 65 [.nilFunc] 8 := isElem_mk (by kernel_rfl) rfl (by simp)
instance : IsScalar Tryz.prog 66 := isScalar_mk (by kernel_rfl)
instance : HasSize Tryz.prog 66 1 := hasSize_mk (by kernel_rfl)
instance : IsZero Tryz.prog 66 [.nilFunc] := isZero_mk (b := 8) (by kernel_rfl) rfl
instance : IsElem Tryz.prog 66 [.nilFunc] 8 := isElem_mk (by kernel_rfl) rfl (by simp)
instance : IsScalar Tryz.prog 67 := isScalar_mk (by kernel_rfl)
instance : HasSize Tryz.prog 67 1 := hasSize_mk (by kernel_rfl)
instance : IsZero Tryz.prog 67 [.nilFunc] := isZero_mk (b := 8) (by kernel_rfl) rfl
instance : IsElem Tryz.prog 67 [.nilFunc] 8 := isElem_mk (by kernel_rfl) rfl (by simp)
instance : IsAgg Tryz.prog 68 12 := isAgg_mk (by kernel_rfl)
instance : IsBuild Tryz.prog 68 [.bool false, .slice none 0 0, .slice none 0 0, .bool false, .slice none 0 0, .slice none 0 0, .bool false, .slice none 0 0, .slice none 0 0, .bool false, .slice none 0 0, .slice none 0 0] [(0, 6), (6, 6)] := ⟨by kernel_rfl, rfl⟩
instance : IsField Tryz.prog 68 0 0 := isField_mk (by kernel_rfl)
instance : IsField Tryz.prog 68 1 6 := isField_mk (by kernel_rfl)
instance : HasSize Tryz.prog 68 12 := hasSize_mk (by kernel_rfl)
instance : IsZero Tryz.prog 68 [.bool false, .slice none 0 0, .slice none 0 0, .bool false, .slice none 0 0, .slice none 0 0, .bool false, .slice none 0 0, .slice none 0 0, .bool false, .slice none 0 0, .slice none 0 0] := isZero_mk (b := 224) (by kernel_rfl) rfl
instance : IsElem Tryz.prog 68 [.bool false, .slice none 0 0, .slice none 0 0, .bool false, .slice none 0 0, .slice none 0 0, .bool false, .slice none 0 0, .slice none 0 0, .bool false, .slice none 0 0, .slice none 0 0] 224 := isElem_mk (by kernel_rfl) rfl (by simp)
instance : IsAgg Tryz.prog 69 12 := isAgg_mk (by kernel_rfl)
instance : IsBuild Tryz.prog 69 [.bool false, .slice none 0 0, .slice none 0 0, .bool false, .slice none 0 0, .slice none 0 0, .bool false, .slice none 0 0, .slice none 0 0, .bool false, .slice none 0 0, .slice none 0 0] [(0, 6), (6, 6)] := ⟨by kernel_rfl, rfl⟩
instance : IsField Tryz.prog 69 0 0 := isField_mk (by kernel_rfl)
instance : IsField Tryz.prog 69 1 6 := isField_mk (by kernel_rfl)
instance : HasSize Tryz.prog 69 12 := hasSize_mk (by kernel_rfl)
instance : IsZero Tryz.prog 69 [.bool false, .slice none 0 0, .slice none 0 0, .bool false, .slice none 0 0, .slice none 0 0, .bool false, .slice none 0 0, .slice none 0 0, .bool false, .slice none 0 0, .slice none 0 0] := isZero_mk (b := 224) (by kernel_rfl) rfl
instance : IsElem Tryz.prog 69 [.bool false, .slice none 0 0, .slice none 0 0, .bool false, .slice none 0 0, .slice none 0 0, .bool false, .slice none 0 0, .slice none 0 0, .bool false, .slice none 0 0, .slice none 0 0] 224 := isElem_mk (by kernel_rfl) rfl (by simp)
instance : IsScalar Tryz.prog 70 := isScalar_mk (by kernel_rfl)
instance : HasSize Tryz.prog 70 1 := hasSize_mk (by kernel_rfl)
instance : IsZero Tryz.prog 70 [.nilFunc] := isZero_mk (b := 8) (by kernel_rfl) rfl
instance : IsElem Tryz.prog 70 [.nilFunc] 8 := isElem_mk (by kernel_rfl) rfl (by simp)
instance : IsScalar Tryz.prog 71 := isScalar_mk (by kernel_rfl)
instance : HasSize Tryz.prog 71 1 := hasSize_mk (by kernel_rfl)
instance : IsZero Tryz.prog 71 [.nilFunc] := isZero_mk (b := 8) (by kernel_rfl) rfl
instance : IsElem Tryz.prog 71 [.nilFunc] 8 := isElem_mk (by kernel_rfl) rfl (by simp)
instance : IsScalar Tryz.prog 72 := isScalar_mk (by kernel_rfl)
instance : HasSize Tryz.prog 72 1 := hasSize_mk (by kernel_rfl)
instance : IsZero Tryz.prog 72 [.nilFunc] := isZero_mk (b := 8) (by kernel_rfl) rfl
instance : IsElem Tryz.prog 72 [.nilFunc] 8 := isElem_mk (by kernel_rfl) rfl (by simp)
instance : IsScalar Tryz.prog 73 := isScalar_mk (by kernel_rfl)
instance : HasSize Tryz.prog 73 1 := hasSize_mk (by kernel_rfl)
instance : IsZero Tryz.prog 73 [.nilFunc] := isZero_mk (b := 8) (by kernel_rfl) rfl
instance : IsElem Tryz.prog 73 [.nilFunc] 8 := isElem_mk (by kernel_rfl) rfl (by simp)
instance : IsAgg Tryz.prog 74 13 := isAgg_mk (by kernel_rfl)
instance : IsBuild Tryz.prog 74 [.int .i64 0, .bool false, .slice none 0 0, .slice none 0 0, .bool false, .slice none 0 0, .slice none 0 0, .bool false, .slice none 0 0, .slice none 0 0, .bool false, .slice none 0 0, .slice none 0 0] [(0, 1), (1, 6), (7, 6)] := ⟨by kernel_rfl, rfl⟩
instance : IsField Tryz.prog 74 0 0 := isField_mk (by kernel_rfl)
instance : IsField Tryz.prog 74 1 1 := isField_mk (by kernel_rfl)
instance : IsField Tryz.prog 74 2 7 := isField_mk (by kernel_rfl)
instance : HasSize Tryz.prog 74 13 := hasSize_mk (by kernel_rfl)
instance : IsZero Tryz.prog 74 [.int .i64 0, .bool false, .slice none 0 0, .slice none 0 0, .bool false, .slice none 0 0, .slice none 0 0, .bool false, .slice none 0 0, .slice none 0 0, .bool false, .slice none 0 0, .slice none 0 0] := isZero_mk (b := 232) (by kernel_rfl) rfl
instance : IsElem Tryz.prog 74 [.int .i64 0, .bool false, .slice none 0 0, .slice none 0 0, .bool false, .slice none 0 0, .slice none 0 0, .bool false, .slice none 0 0, .slice none 0 0, .bool false, .slice none 0 0, .slice none 0 0] 232 := isElem_mk (by kernel_rfl) rfl (by simp)
instance : IsAgg Tryz.prog 75 13 := isAgg_mk (by kernel_rfl)
instance : IsBuild Tryz.prog 75 [.int .i64 0, .bool false, .slice none 0 0, .slice none 0 0, .bool false, .slice none 0 0, .slice none 0 0, .bool false, .slice none 0 0, .slice none 0 0, .bool false, .slice none 0 0, .slice none 0 0] [(0, 1), (1, 6), (7, 6)] := ⟨by kernel_rfl, rfl⟩
instance : IsField Tryz.prog 75 0 0 := isField_mk (by kernel_rfl)
instance : IsField Tryz.prog 75 1 1 := isField_mk (by kernel_rfl)
instance : IsField Tryz.prog 75 2 7 := isField_mk (by kernel_rfl)
instance : HasSize Tryz.prog 75 13 := hasSize_mk (by kernel_rfl)
instance : IsZero Tryz.prog 75 [.int .i64 0, .bool false, .slice none 0 0, .slice none 0 0, .bool false, .slice none 0 0, .slice none 0 0, .bool false, .slice none 0 0, .slice none 0 0, .bool false, .slice none 0 0, .slice none 0 0] := isZero_mk (b := 232) (by kernel_rfl) rfl
instance : IsElem Tryz.prog 75 [.int .i64 0, .bool false, .slice none 0 0, .slice none 0 0, .bool false, .slice none 0 0, .slice none 0 0, .bool false, .slice none 0 0, .slice none 0 0, .bool false, .slice none 0 0, .slice none 0 0] 232 := isElem_mk (by kernel_rfl) rfl (by simp)
instance : IsScalar Tryz.prog 76 := isScalar_mk (by kernel_rfl)
instance : IsInt Tryz.prog 76 .i8 := ⟨by kernel_rfl⟩
instance : HasTy Tryz.prog 76 := ⟨by kernel_rfl⟩
instance : HasSize Tryz.prog 76 1 := hasSize_mk (by kernel_rfl)
instance : IsZero Tryz.prog 76 [.int .i8 0] := isZero_mk (b := 1) (by kernel_rfl) rfl
instance : IsElem Tryz.prog 76 [.int .i8 0] 1 := isElem_mk (by kernel_rfl) rfl (by simp)
instance : IsScalar Tryz.prog 77 := isScalar_mk (by kernel_rfl)
instance : HasSize Tryz.prog 77 1 := hasSize_mk (by kernel_rfl)
instance : IsZero Tryz.prog 77 [.nilFunc] := isZero_mk (b := 8) (by kernel_rfl) rfl
instance : IsElem Tryz.prog 77 [.nilFunc] 8 := isElem_mk (by kernel_rfl) rfl (by simp)
instance : IsAgg Tryz.prog 78 13 := isAgg_mk (by kernel_rfl)
instance : IsBuild Tryz.prog 78 [.int .i8 0, .bool false, .slice none 0 0, .slice none 0 0, .bool false, .slice none 0 0, .slice none 0 0, .bool false, .slice none 0 0, .slice none 0 0, .bool false, .slice none 0 0, .slice none 0 0] [(0, 1), (1, 6), (7, 6)] := ⟨by kernel_rfl, rfl⟩
instance : IsField Tryz.prog 78 0 0 := isField_mk (by kernel_rfl)
instance : IsField Tryz.prog 78 1 1 := isField_mk (by kernel_rfl)
instance : IsField Tryz.prog 78 2 7 := isField_mk (by kernel_rfl)
instance : HasSize Tryz.prog 78 13 := hasSize_mk (by kernel_rfl)
instance : IsZero Tryz.prog 78 [.int .i8 0, .bool false, .slice none 0 0, .slice none 0 0, .bool false, .slice none 0 0, .slice none 0 0, .bool false, .slice none 0 0, .slice none 0 0, .bool false, .slice none 0 0, .slice none 0 0] := isZero_mk (b := 232) (by kernel_rfl) rfl
instance : IsElem Tryz.prog 78 [.int .i8 0, .bool false, .slice none 0 0, .slice none 0 0, .bool false, .slice none 0 0, .slice none 0 0, .bool false, .slice none 0 0, .slice none 0 0, .bool false, .slice none 0 0, .slice none 0 0] 232 := isElem_mk (by kernel_rfl) rfl (by simp)
instance : IsAgg Tryz.prog 79 13 := isAgg_mk (by kernel_rfl)
instance : IsBuild Tryz.prog 79 [.int .i8 0, .bool false, .slice none 0 0, .slice none 0 0, .bool false, .slice none 0 0, .slice none 0 0, .bool false, .slice none 0 0, .slice none 0 0, .bool false, .slice none 0 0, .slice none 0 0] [(0, 1), (1, 6), (7, 6)] := ⟨by kernel_rfl, rfl⟩
instance : IsField Tryz.prog 79 0 0 := isField_mk (by kernel_rfl)
instance : IsField Tryz.prog 79 1 1 := isField_mk (by kernel_rfl)
instance : IsField Tryz.prog 79 2 7 := isField_mk (by kernel_rfl)
instance : HasSize Tryz.prog 79 13 := hasSize_mk (by kernel_rfl)
instance : IsZero Tryz.prog 79 [.int .i8 0, .bool false, .slice none 0 0, .slice none 0 0, .bool false, .slice none 0 0, .slice none 0 0, .bool false, .slice none 0 0, .slice none 0 0, .bool false, .slice none 0 0, .slice none 0 0] := isZero_mk (b := 232) (by kernel_rfl) rfl
instance : IsElem Tryz.prog 79 [.int .i8 0, .bool false, .slice none 0 0, .slice none 0 0, .bool false, .slice none 0 0, .slice none 0 0, .bool false, .slice none 0 0, .slice none 0 0, .bool false, .slice none 0 0, .slice none 0 0] 232 := isElem_mk (by kernel_rfl) rfl (by simp)
instance : IsScalar Tryz.prog 80 := isScalar_mk (by kernel_rfl)
instance : HasSize Tryz.prog 80 1 := hasSize_mk (by kernel_rfl)
instance : IsZero Tryz.prog 80 [.nilFunc] := isZero_mk (b := 8) (by kernel_rfl) rfl
instance : IsElem Tryz.prog 80 [.nilFunc] 8 := isElem_mk (by kernel_rfl) rfl (by simp)
instance : IsScalar Tryz.prog 81 := isScalar_mk (by kernel_rfl)
instance : HasSize Tryz.prog 81 1 := hasSize_mk (by kernel_rfl)
instance : IsZero Tryz.prog 81 [.nilFunc] := isZero_mk (b := 8) (by kernel_rfl) rfl
instance : IsElem Tryz.prog 81 [.nilFunc] 8 := isElem_mk (by kernel_rfl) rfl (by simp)
instance : IsScalar Tryz.prog 82 := isScalar_mk (by kernel_rfl)
instance : HasSize Tryz.prog 82 1 := hasSize_mk (by kernel_rfl)
instance : IsZero Tryz.prog 82 [.nilFunc] := isZero_mk (b := 8) (by kernel_rfl) rfl
instance : IsElem Tryz.prog 82 [.nilFunc] 8 := isElem_mk (by kernel_rfl) rfl (by simp)
instance : IsScalar Tryz.prog 83 := isScalar_mk (by kernel_rfl)
instance : HasSize Tryz.prog 83 1 := hasSize_mk (by kernel_rfl)
instance : IsZero Tryz.prog 83 [.nilFunc] := isZero_mk (b := 8) (by kernel_rfl) rfl
instance : IsElem Tryz.prog 83 [.nilFunc] 8 := isElem_mk (by kernel_rfl) rfl (by simp)
instance : IsScalar Tryz.prog 84 := isScalar_mk (by kernel_rfl)
instance : HasSize Tryz.prog 84 1 := hasSize_mk (by kernel_rfl)
instance : IsZero Tryz.prog 84 [.nilFunc] := isZero_mk (b := 8) (by kernel_rfl) rfl
instance : IsElem Tryz.prog 84 [.nilFunc] 8 := isElem_mk (by kernel_rfl) rfl (by simp)
instance : IsScalar Tryz.prog 85 := isScalar_mk (by kernel_rfl)
instance : HasSize Tryz.prog 85 1 := hasSize_mk (by kernel_rfl)
instance : IsZero Tryz.prog 85 [.nilFunc] := isZero_mk (b := 8) (by kernel_rfl) rfl
instance : IsElem Tryz.prog 85 [.nilFunc] 8 := isElem_mk (by kernel_rfl) rfl (by simp)
instance : IsScalar Tryz.prog 86 := isScalar_mk (by kernel_rfl)
instance : IsSl Tryz.prog 86 28 3 := isSl_mk (by kernel_rfl) (by kernel_rfl)
instance : HasSize Tryz.prog 86 1 := hasSize_mk (by kernel_rfl)
instance : IsZero Tryz.prog 86 [.slice none 0 0] := isZero_mk (b := 24) (by kernel_rfl) rfl
instance : IsElem Tryz.prog 86 [.slice none 0 0] 24 := isElem_mk (by kernel_rfl) rfl (by simp)
instance : IsScalar Tryz.prog 87 := isScalar_mk (by kernel_rfl)
instance : HasSize Tryz.prog 87 1 := hasSize_mk (by kernel_rfl)
instance : IsZero Tryz.prog 87 [.nilFunc] := isZero_mk (b := 8) (by kernel_rfl) rfl
instance : IsElem Tryz.prog 87 [.nilFunc] 8 := isElem_mk (by kernel_rfl) rfl (by simp)
instance : IsScalar Tryz.prog 88 := isScalar_mk (by kernel_rfl)
instance : HasSize Tryz.prog 88 1 := hasSize_mk (by kernel_rfl)
instance : IsZero Tryz.prog 88 [.nilFunc] := isZero_mk (b := 8) (by kernel_rfl) rfl
instance : IsElem Tryz.prog 88 [.nilFunc] 8 := isElem_mk (by kernel_rfl) rfl (by simp)
instance : IsScalar Tryz.prog 89 := isScalar_mk (by kernel_rfl)
instance : HasSize Tryz.prog 89 1 := hasSize_mk (by kernel_rfl)
instance : IsZero Tryz.prog 89 [.nilFunc] := isZero_mk (b := 8) (by kernel_rfl) rfl
instance : IsElem Tryz.prog 89 [.nilFunc] 8 := isElem_mk (by kernel_rfl) rfl (by simp)
instance : IsScalar Tryz.prog 90 := isScalar_mk (by kernel_rfl)
instance : HasSize Tryz.prog 90 1 := hasSize_mk (by kernel_rfl)
instance : IsZero Tryz.prog 90 [.nilFunc] := isZero_mk (b := 8) (by kernel_rfl) rfl
instance : IsElem Tryz.prog 90 [.nilFunc] 8 := isElem_mk (by kernel_rfl) rfl (by simp)
instance : IsScalar Tryz.prog 91 := isScalar_mk (by kernel_rfl)
instance : HasSize Tryz.prog 91 1 := hasSize_mk (by kernel_rfl)
instance : IsZero Tryz.prog 91 [.nilFunc] := isZero_mk (b := 8) (by kernel_rfl) rfl
instance : IsElem Tryz.prog 91 [.nilFunc] 8 := isElem_mk (by kernel_rfl) rfl (by simp)
instance : IsScalar Tryz.prog 92 := isScalar_mk (by kernel_rfl)
instance : HasSize Tryz.prog 92 1 := hasSize_mk (by kernel_rfl)
instance : IsZero Tryz.prog 92 [.nilFunc] := isZero_mk (b := 8) (by kernel_rfl) rfl
instance : IsElem Tryz.prog 92 [.nilFunc] 8 := isElem_mk (by kernel_rfl) rfl (by simp)
instance : IsScalar Tryz.prog 93 := isScalar_mk (by kernel_rfl)
instance : IsInt Tryz.prog 93 .u32 := ⟨by kernel_rfl⟩
instance : HasTy Tryz.prog 93 := ⟨by kernel_rfl⟩
instance : HasSize Tryz.prog 93 1 := hasSize_mk (by kernel_rfl)
instance : IsZero Tryz.prog 93 [.int .u32 0] := isZero_mk (b := 4) (by kernel_rfl) rfl
instance : IsElem Tryz.prog 93 [.int .u32 0] 4 := isElem_mk (by kernel_rfl) rfl (by simp)
instance : IsScalar Tryz.prog 94 := isScalar_mk (by kernel_rfl)
instance : HasSize Tryz.prog 94 1 := hasSize_mk (by kernel_rfl)
instance : IsZero Tryz.prog 94 [.nilFunc] := isZero_mk (b := 8) (by kernel_rfl) rfl
instance : IsElem Tryz.prog 94 [.nilFunc] 8 := isElem_mk (by kernel_rfl) rfl (by simp)
instance : IsScalar Tryz.prog 95 := isScalar_mk (by kernel_rfl)
instance : HasSize Tryz.prog 95 1 := hasSize_mk (by kernel_rfl)
instance : IsZero Tryz.prog 95 [.nilFunc] := isZero_mk (b := 8) (by kernel_rfl) rfl
instance : IsElem Tryz.prog 95 [.nilFunc] 8 := isElem_mk (by kernel_rfl) rfl (by simp)
instance : IsScalar Tryz.prog 96 := isScalar_mk (by kernel_rfl)
instance : HasSize Tryz.prog 96 1 := hasSize_mk (by kernel_rfl)
instance : IsZero Tryz.prog 96 [.nilFunc] := isZero_mk (b := 8) (by kernel_rfl) rfl
instance : IsElem Tryz.prog 96 [.nilFunc] 8 := isElem_mk (by kernel_rfl) rfl (by simp)
instance : IsAgg Tryz.prog 97 3 := isAgg_mk (by kernel_rfl)
instance : IsBuild Tryz.prog 97 [.nilFunc, .nilFunc, .nilFunc] [(0, 1), (1, 1), (2, 1)] := ⟨by kernel_rfl, rfl⟩
instance : IsArr Tryz.prog 97 3 1 := ⟨55, by kernel_rfl, by kernel_rfl⟩
instance : HasSize Tryz.prog 97 3 := hasSize_mk (by kernel_rfl)
instance : IsZero Tryz.prog 97 [.nilFunc, .nilFunc, .nilFunc] := isZero_mk (b := 24) (by kernel_rfl) rfl
instance : IsElem Tryz.prog 97 [.nilFunc, .nilFunc, .nilFunc] 24 := isElem_mk (by kernel_rfl) rfl (by simp)
instance : IsScalar Tryz.prog 98 := isScalar_mk (by kernel_rfl)
instance : HasSize Tryz.prog 98 1 := hasSize_mk (by kernel_rfl)
instance : IsZero Tryz.prog 98 [.nilFunc] := isZero_mk (b := 8) (by kernel_rfl) rfl
instance : IsElem Tryz.prog 98 [.nilFunc] 8 := isElem_mk (by kernel_rfl) rfl (by simp)
instance : IsScalar Tryz.prog 99 := isScalar_mk (by kernel_rfl)
instance : HasSize Tryz.prog 99 1 := hasSize_mk (by kernel_rfl)
instance : IsZero Tryz.prog 99 [.nilFunc] := isZero_mk (b := 8) (by kernel_rfl) rfl
instance : IsElem Tryz.prog 99 [.nilFunc] 8 := isElem_mk (by kernel_rfl) rfl (by simp)
instance : IsScalar Tryz.prog 100 := isScalar_mk (by kernel_rfl)
instance : HasSize Tryz.prog 100 1 := hasSize_mk (by kernel_rfl)
instance : IsZero Tryz.prog 100 [.nilFunc] := isZero_mk (b := 8) (by kernel_rfl) rfl
instance : IsElem Tryz.prog 100 [.nilFunc] 8 := isElem_mk (by kernel_rfl) rfl (by simp)
instance : IsScalar Tryz.prog 101 := isScalar_mk (by kernel_rfl)
instance : HasSize Tryz.prog 101 1 := hasSize_mk (by kernel_rfl)
instance : IsZero Tryz.prog 101 [.nilFunc] := isZero_mk (b := 8) (by kernel_rfl) rfl
instance : IsElem Tryz.prog 101 [.nilFunc] 8 := isElem_mk (by kernel_rfl) rfl (by simp)
instance : IsScalar Tryz.prog 102 := isScalar_mk (by kernel_rfl)
instance : IsSl Tryz.prog 102 9 1 := isSl_mk (by kernel_rfl) (by kernel_rfl)
instance : HasSize Tryz.prog 102 1 := hasSize_mk (by kernel_rfl)
instance : IsZero Tryz.prog 102 [.slice none 0 0] := isZero_mk (b := 24) (by kernel_rfl) rfl
instance : IsElem Tryz.prog 102 [.slice none 0 0] 24 := isElem_mk (by kernel_rfl) rfl (by simp)
instance : IsScalar Tryz.prog 103 := isScalar_mk (by kernel_rfl)
instance : IsInt Tryz.prog 103 .i64 := ⟨by kernel_rfl⟩
instance : HasTy Tryz.prog 103 := ⟨by kernel_rfl⟩
instance : HasSize Tryz.prog 103 1 := hasSize_mk (by kernel_rfl)
instance : IsZero Tryz.prog 103 [.int .i64 0] := isZero_mk (b := 8) (by kernel_rfl) rfl
instance : IsElem Tryz.prog 103 [.int .i64 0] 8 := isElem_mk (by kernel_rfl) rfl (by simp)
instance : IsScalar Tryz.prog 105 := isScalar_mk (by kernel_rfl)
instance : HasSize Tryz.prog 105 1 := hasSize_mk (by kernel_rfl)
instance : IsZero Tryz.prog 105 [.nilFunc] := isZero_mk (b := 8) (by kernel_rfl) rfl
instance : IsElem Tryz.prog 105 [.nilFunc] 8 := isElem_mk (by kernel_rfl) rfl (by simp)
instance : IsScalar Tryz.prog 107 := isScalar_mk (by kernel_rfl)
instance : HasSize Tryz.prog 107 1 := hasSize_mk (by kernel_rfl)
instance : IsZero Tryz.prog 107 [.nilFunc] := isZero_mk (b := 8) (by kernel_rfl) rfl
instance : IsElem Tryz.prog 107 [.nilFunc] 8 := isElem_mk (by kernel_rfl) rfl (by simp)
instance : IsScalar Tryz.prog 108 := isScalar_mk (by kernel_rfl)
instance : HasSize Tryz.prog 108 1 := hasSize_mk (by kernel_rfl)
instance : IsZero Tryz.prog 108 [.nilFunc] := isZero_mk (b := 8) (by kernel_rfl) rfl
instance : IsElem Tryz.prog 108 [.nilFunc] 8 := isElem_mk (by kernel_rfl) rfl (by simp)
instance : IsScalar Tryz.prog 109 := isScalar_mk (by kernel_rfl)
instance : HasSize Tryz.prog 109 1 := hasSize_mk (by kernel_rfl)
instance : IsZero Tryz.prog 109 [.nilFunc] := isZero_mk (b := 8) (by kernel_rfl) rfl
instance : IsElem Tryz.prog 109 [.nilFunc] 8 := isElem_mk (by kernel_rfl) rfl (by simp)
instance : IsScalar Tryz.prog 110 := isScalar_mk (by kernel_rfl)
instance : HasSize Tryz.prog 110 1 := hasSize_mk (by kernel_rfl)
instance : IsZero Tryz.prog 110 [.nilFunc] := isZero_mk (b := 8) (by kernel_rfl) rfl
instance : IsElem Tryz.prog 110 [.nilFunc] 8 := isElem_mk (by kernel_rfl) rfl (by simp)
instance : IsScalar Tryz.prog 111 := isScalar_mk (by kernel_rfl)
instance : HasSize Tryz.prog 111 1 := hasSize_mk (by kernel_rfl)
instance : IsZero Tryz.prog 111 [.nilFunc] := isZero_mk (b := 8) (by kernel_rfl) rfl
instance : IsElem Tryz.prog 111 [.nilFunc] 8 := isElem_mk (by kernel_rfl) rfl (by simp)
instance : IsScalar Tryz.prog 112 := isScalar_mk (by kernel_rfl)
instance : HasSize Tryz.prog 112 1 := hasSize_mk (by kernel_rfl)
instance : IsZero Tryz.prog 112 [.nilFunc] := isZero_mk (b := 8) (by kernel_rfl) rfl
instance : IsElem Tryz.prog 112 [.nilFunc] 8 := isElem_mk (by kernel_rfl) rfl (by simp)
instance : IsScalar Tryz.prog 113 := isScalar_mk (by kernel_rfl)
instance : HasSize Tryz.prog 113 1 := hasSize_mk (by kernel_rfl)
instance : IsZero Tryz.prog 113 [.nilFunc] := isZero_mk (b := 8) (by kernel_rfl) rfl
instance : IsElem Tryz.prog 113 [.nilFunc] 8 := isElem_mk (by kernel_rfl) rfl (by simp)
instance : IsScalar Tryz.prog 114 := isScalar_mk (by kernel_rfl)
instance : HasSize Tryz.prog 114 1 := hasSize_mk (by kernel_rfl)
instance : IsZero Tryz.prog 114 [.nilFunc] := isZero_mk (b := 8) (by kernel_rfl) rfl
instance : IsElem Tryz.prog 114 [.nilFunc] 8 := isElem_mk (by kernel_rfl) rfl (by simp)
instance : IsScalar Tryz.prog 115 := isScalar_mk (by kernel_rfl)
instance : HasSize Tryz.prog 115 1 := hasSize_mk (by kernel_rfl)
instance : IsZero Tryz.prog 115 [.nilFunc] := isZero_mk (b := 8) (by kernel_rfl) rfl
instance : IsElem Tryz.prog 115 [.nilFunc] 8 := isElem_mk (by kernel_rfl) rfl (by simp)
instance : IsScalar Tryz.prog 116 := isScalar_mk (by kernel_rfl)
instance : HasSize Tryz.prog 116 1 := hasSize_mk (by kernel_rfl)
instance : IsZero Tryz.prog 116 [.nilFunc] := isZero_mk (b := 8) (by kernel_rfl) rfl
instance : IsElem Tryz.prog 116 [.nilFunc] 8 := isElem_mk (by kernel_rfl) rfl (by simp)
instance : IsScalar Tryz.prog 117 := isScalar_mk (by kernel_rfl)
instance : HasSize Tryz.prog 117 1 := hasSize_mk (by kernel_rfl)
instance : IsZero Tryz.prog 117 [.nilFunc] := isZero_mk (b := 8) (by kernel_rfl) rfl
instance : IsElem Tryz.prog 117 [.nilFunc] 8 := isElem_mk (by kernel_rfl) rfl (by simp)
instance : IsScalar Tryz.prog 118 := isScalar_mk (by kernel_rfl)
instance : HasSize Tryz.prog 118 1 := hasSize_mk (by kernel_rfl)
instance : IsZero Tryz.prog 118 [.nilFunc] := isZero_mk (b := 8) (by kernel_rfl) rfl
instance : IsElem Tryz.prog 118 [.nilFunc] 8 := isElem_mk (by kernel_rfl) rfl (by simp)
instance : IsScalar Tryz.prog 119 := isScalar_mk (by kernel_rfl)
instance : HasSize Tryz.prog 119 1 := hasSize_mk (by kernel_rfl)
instance : IsZero Tryz.prog 119 [.nilFunc] := isZero_mk (b := 8) (by kernel_rfl) rfl
instance : IsElem Tryz.prog 119 [.nilFunc] 8 := isElem_mk (by kernel_rfl) rfl (by simp)
instance : IsScalar Tryz.prog 120 := isScalar_mk (by kernel_rfl)
instance : HasSize Tryz.prog 120 1 := hasSize_mk (by kernel_rfl)
instance : IsZero Tryz.prog 120 [.nilFunc] := isZero_mk (b := 8) (by kernel_rfl) rfl
instance : IsElem Tryz.prog 120 [.nilFunc] 8 := isElem_mk (by kernel_rfl) rfl (by simp)
instance : IsAgg Tryz.prog 121 12 := isAgg_mk (by kernel_rfl)
instance : IsBuild Tryz.prog 121 [.bool false, .slice none 0 0, .slice none 0 0, .bool false, .slice none 0 0, .slice none 0 0, .bool false, .slice none 0 0, .slice none 0 0, .bool false, .slice none 0 0, .slice none 0 0] [(0, 6), (6, 6)] := ⟨by kernel_rfl, rfl⟩
instance : IsField Tryz.prog 121 0 0 := isField_mk (by kernel_rfl)
instance : IsField Tryz.prog 121 1 6 := isField_mk (by kernel_rfl)
instance : HasSize Tryz.prog 121 12 := hasSize_mk (by kernel_rfl)
instance : IsZero Tryz.prog 121 [.bool false, .slice none 0 0, .slice none 0 0, .bool false, .slice none 0 0, .slice none 0 0, .bool false, .slice none 0 0, .slice none 0 0, .bool false, .slice none 0 0, .slice none 0 0] := isZero_mk (b := 224) (by kernel_rfl) rfl
instance : IsElem Tryz.prog 121 [.bool false, .slice none 0 0, .slice none 0 0, .bool false, .slice none 0 0, .slice none 0 0, .bool false, .slice none 0 0, .slice none 0 0, .bool false, .slice none 0 0, .slice none 0 0] 224 := isElem_mk (by kernel_rfl) rfl (by simp)
instance : IsAgg Tryz.prog 122 12 := isAgg_mk (by kernel_rfl)
instance : IsBuild Tryz.prog 122 [.bool false, .slice none 0 0, .slice none 0 0, .bool false, .slice none 0 0, .slice none 0 0, .bool false, .slice none 0 0, .slice none 0 0, .bool false, .slice none 0 0, .slice none 0 0] [(0, 6), (6, 6)] := ⟨by kernel_rfl, rfl⟩
instance : IsField Tryz.prog 122 0 0 := isField_mk (by kernel_rfl)
instance : IsField Tryz.prog 122 1 6 := isField_mk (by kernel_rfl)
instance : HasSize Tryz.prog 122 12 := hasSize_mk (by kernel_rfl)
instance : IsZero Tryz.prog 122 [.bool false, .slice none 0 0, .slice none 0 0, .bool false, .slice none 0 0, .slice none 0 0, .bool false, .slice none 0 0, .slice none 0 0, .bool false, .slice none 0 0, .slice none 0 0] := isZero_mk (b := 224) (by kernel_rfl) rfl
instance : IsElem Tryz.prog 122 [.bool false, .slice none 0 0, .slice none 0 0, .bool false, .slice none 0 0, .slice none 0 0, .bool false, .slice none 0 0, .slice none 0 0, .bool false, .slice none 0 0, .slice none 0 0] 224 := isElem_mk (by kernel_rfl) rfl (by simp)
instance : IsScalar Tryz.prog 123 := isScalar_mk (by kernel_rfl)
instance : HasSize Tryz.prog 123 1 := hasSize_mk (by kernel_rfl)
instance : IsZero Tryz.prog 123 [.nilFunc] := isZero_mk (b := 8) (by kernel_rfl) rfl
instance : IsElem Tryz.prog 123 [.nilFunc] 8 := isElem_mk (by kernel_rfl) rfl (by simp)
instance : IsScalar Tryz.prog 124 := isScalar_mk (by kernel_rfl)
instance : HasSize Tryz.prog 124 1 := hasSize_mk (by kernel_rfl)
instance : IsZero Tryz.prog 124 [.nilFunc] := isZero_mk (b := 8) (by kernel_rfl) rfl
instance : IsElem Tryz.prog 124 [.nilFunc] 8 := isElem_mk (by kernel_rfl) rfl (by simp)
instance : IsScalar Tryz.prog 125 := isScalar_mk (by kernel_rfl)
instance : HasSize Tryz.prog 125 1 := hasSize_mk (by kernel_rfl)
instance : IsZero Tryz.prog 125 [.pointer none] := isZero_mk (b := 8) (by kernel_rfl) rfl
instance : IsElem Tryz.prog 125 [.pointer none] 8 := isElem_mk (by kernel_rfl) rfl (by simp)
instance : IsAgg Tryz.prog 126 3 := isAgg_mk (by kernel_rfl)
instance : IsBuild Tryz.prog 126 [.bool false, .slice none 0 0, .slice none 0 0] [(0, 3)] := ⟨by kernel_rfl, rfl⟩
instance : IsField Tryz.prog 126 0 0 := isField_mk (by kernel_rfl)
instance : HasSize Tryz.prog 126 3 := hasSize_mk (by kernel_rfl)
instance : IsZero Tryz.prog 126 [.bool false, .slice none 0 0, .slice none 0 0] := isZero_mk (b := 56) (by kernel_rfl) rfl
instance : IsElem Tryz.prog 126 [.bool false, .slice none 0 0, .slice none 0 0] 56 := isElem_mk (by kernel_rfl) rfl (by simp)
instance : IsAgg Tryz.prog 127 3 := isAgg_mk (by kernel_rfl)
instance : IsBuild Tryz.prog 127 [.bool false, .slice none 0 0, .slice none 0 0] [(0, 3)] := ⟨by kernel_rfl, rfl⟩
instance : IsField Tryz.prog 127 0 0 := isField_mk (by kernel_rfl)
instance : HasSize Tryz.prog 127 3 := hasSize_mk (by kernel_rfl)
instance : IsZero Tryz.prog 127 [.bool false, .slice none 0 0, .slice none 0 0] := isZero_mk (b := 56) (by kernel_rfl) rfl
instance : IsElem Tryz.prog 127 [.bool false, .slice none 0 0, .slice none 0 0] 56 := isElem_mk (by kernel_rfl) rfl (by simp)
instance : IsScalar Tryz.prog 128 := isScalar_mk (by kernel_rfl)
instance : HasSize Tryz.prog 128 1 := hasSize_mk (by kernel_rfl)
instance : IsZero Tryz.prog 128 [.nilFunc] := isZero_mk (b := 8) (by kernel_rfl) rfl
instance : IsElem Tryz.prog 128 [.nilFunc] 8 := isElem_mk (by kernel_rfl) rfl (by simp)
instance : IsScalar Tryz.prog 129 := isScalar_mk (by kernel_rfl)
instance : HasSize Tryz.prog 129 1 := hasSize_mk (by kernel_rfl)
instance : IsZero Tryz.prog 129 [.nilFunc] := isZero_mk (b := 8) (by kernel_rfl) rfl
instance : IsElem Tryz.prog 129 [.nilFunc] 8 := isElem_mk (by kernel_rfl) rfl (by simp)
instance : IsScalar Tryz.prog 130 := isScalar_mk (by kernel_rfl)
instance : HasSize Tryz.prog 130 1 := hasSize_mk (by kernel_rfl)
instance : IsZero Tryz.prog 130 [.nilFunc] := isZero_mk (b := 8) (by kernel_rfl) rfl
instance : IsElem Tryz.prog 130 [.nilFunc] 8 := isElem_mk (by kernel_rfl) rfl (by simp)
instance : IsScalar Tryz.prog 131 := isScalar_mk (by kernel_rfl)
instance : HasSize Tryz.prog 131 1 := hasSize_mk (by kernel_rfl)
instance : IsZero Tryz.prog 131 [.nilFunc] := isZero_mk (b := 8) (by kernel_rfl) rfl
instance : IsElem Tryz.prog 131 [.nilFunc] 8 := isElem_mk (by kernel_rfl) rfl (by simp)
instance : IsScalar Tryz.prog 132 := isScalar_mk (by kernel_rfl)
instance : HasSize Tryz.prog 132 1 := hasSize_mk (by kernel_rfl)
instance : IsZero Tryz.prog 132 [.nilFunc] := isZero_mk (b := 8) (by kernel_rfl) rfl
instance : IsElem Tryz.prog 132 [.nilFunc] 8 := isElem_mk (by kernel_rfl) rfl (by simp)
instance : IsScalar Tryz.prog 133 := isScalar_mk (by kernel_rfl)
instance : HasSize Tryz.prog 133 1 := hasSize_mk (by kernel_rfl)
instance : IsZero Tryz.prog 133 [.nilFunc] := isZero_mk (b := 8) (by kernel_rfl) rfl
instance : IsElem Tryz.prog 133 [.nilFunc] 8 := isElem_mk (by kernel_rfl) rfl (by simp)
instance : IsScalar Tryz.prog 134 := isScalar_mk (by kernel_rfl)
instance : HasSize Tryz.prog 134 1 := hasSize_mk (by kernel_rfl)
instance : IsZero Tryz.prog 134 [.nilFunc] := isZero_mk (b := 8) (by kernel_rfl) rfl
instance : IsElem Tryz.prog 134 [.nilFunc] 8 := isElem_mk (by kernel_rfl) rfl (by simp)
instance : IsScalar Tryz.prog 135 := isScalar_mk (by kernel_rfl)
instance : HasSize Tryz.prog 135 1 := hasSize_mk (by kernel_rfl)
instance : IsZero Tryz.prog 135 [.nilFunc] := isZero_mk (b := 8) (by kernel_rfl) rfl
instance : IsElem Tryz.prog 135 [.nilFunc] 8 := isElem_mk (by kernel_rfl) rfl (by simp)
instance : IsAgg Tryz.prog 136 18 := isAgg_mk (by kernel_rfl)
instance : IsBuild Tryz.prog 136 [.bool false, .slice none 0 0, .slice none 0 0, .bool false, .slice none 0 0, .slice none 0 0, .bool false, .slice none 0 0, .slice none 0 0, .bool false, .slice none 0 0, .slice none 0 0, .bool false, .slice none 0 0, .slice none 0 0, .bool false, .slice none 0 0, .slice none 0 0] [(0, 6), (6, 6), (12, 6)] := ⟨by kernel_rfl, rfl⟩
instance : IsField Tryz.prog 136 0 0 := isField_mk (by kernel_rfl)
instance : IsField Tryz.prog 136 1 6 := isField_mk (by kernel_rfl)
instance : IsField Tryz.prog 136 2 12 := isField_mk (by kernel_rfl)
instance : HasSize Tryz.prog 136 18 := hasSize_mk (by kernel_rfl)
instance : IsZero Tryz.prog 136 [.bool false, .slice none 0 0, .slice none 0 0, .bool false, .slice none 0 0, .slice none 0 0, .bool false, .slice none 0 0, .slice none 0 0, .bool false, .slice none 0 0, .slice none 0 0, .bool false, .slice none 0 0, .slice none 0 0, .bool false, .slice none 0 0, .slice none 0 0] := isZero_mk (b := 336) (by kernel_rfl) rfl
instance : IsElem Tryz.prog 136 [.bool false, .slice none 0 0, .slice none 0 0, .bool false, .slice none 0 0, .slice none 0 0, .bool false, .slice none 0 0, .slice none 0 0, .bool false, .slice none 0 0, .slice none 0 0, .bool false, .slice none 0 0, .slice none 0 0, .bool false, .slice none 0 0, .slice none 0 0] 336 := isElem_mk (by kernel_rfl) rfl (by simp)
instance : IsAgg Tryz.prog 137 18 := isAgg_mk (by kernel_rfl)
instance : IsBuild Tryz.prog 137 [.bool false, .slice none 0 0, .slice none 0 0, .bool false, .slice none 0 0, .slice none 0 0, .bool false, .slice none 0 0, .slice none 0 0, .bool false, .slice none 0 0, .slice none 0 0, .bool false, .slice none 0 0, .slice none 0 0, .bool false, .slice none 0 0, .slice none 0 0] [(0, 6), (6, 6), (12, 6)] := ⟨by kernel_rfl, rfl⟩
instance : IsField Tryz.prog 137 0 0 := isField_mk (by kernel_rfl)
instance : IsField Tryz.prog 137 1 6 := isField_mk (by kernel_rfl)
instance : IsField Tryz.prog 137 2 12 := isField_mk (by kernel_rfl)
instance : HasSize Tryz.prog 137 18 := hasSize_mk (by kernel_rfl)
instance : IsZero Tryz.prog 137 [.bool false, .slice none 0 0, .slice none 0 0, .bool false, .slice none 0 0, .slice none 0 0, .bool false, .slice none 0 0, .slice none 0 0, .bool false, .slice none 0 0, .slice none 0 0, .bool false, .slice none 0 0, .slice none 0 0, .bool false, .slice none 0 0, .slice none 0 0] := isZero_mk (b := 336) (by kernel_rfl) rfl
instance : IsElem Tryz.prog 137 [.bool false, .slice none 0 0, .slice none 0 0, .bool false, .slice none 0 0, .slice none 0 0, .bool false, .slice none 0 0, .slice none 0 0, .bool false, .slice none 0 0, .slice none 0 0, .bool false, .slice none 0 0, .slice none 0 0, .bool false, .slice none 0 0, .slice none 0 0] 336 := isElem_mk (by kernel_rfl) rfl (by simp)
instance : IsScalar Tryz.prog 138 := isScalar_mk (by kernel_rfl)
instance : HasSize Tryz.prog 138 1 := hasSize_mk (by kernel_rfl)
instance : IsZero Tryz.prog 138 [.nilFunc] := isZero_mk (b := 8) (by kernel_rfl) rfl
instance : IsElem Tryz.prog 138 [.nilFunc] 8 := isElem_mk (by kernel_rfl) rfl (by simp)
instance : IsScalar Tryz.prog 140 := isScalar_mk (by kernel_rfl)
instance : HasSize Tryz.prog 140 1 := hasSize_mk (by kernel_rfl)
instance : IsZero Tryz.prog 140 [.nilFunc] := isZero_mk (b := 8) (by kernel_rfl) rfl
instance : IsElem Tryz.prog 140 [.nilFunc] 8 := isElem_mk (by kernel_rfl) rfl (by simp)
instance : IsScalar Tryz.prog 141 := isScalar_mk (by kernel_rfl)
instance : HasSize Tryz.prog 141 1 := hasSize_mk (by kernel_rfl)
instance : IsZero Tryz.prog 141 [.nilFunc] := isZero_mk (b := 8) (by kernel_rfl) rfl
instance : IsElem Tryz.prog 141 [.nilFunc] 8 := isElem_mk (by kernel_rfl) rfl (by simp)
instance : IsScalar Tryz.prog 142 := isScalar_mk (by kernel_rfl)
instance : IsSl Tryz.prog 142 26 2 := isSl_mk (by kernel_rfl) (by kernel_rfl)
instance : HasSize Tryz.prog 142 1 := hasSize_mk (by kernel_rfl)
instance : IsZero Tryz.prog 142 [.slice none 0 0] := isZero_mk (b := 24) (by kernel_rfl) rfl
instance : IsElem Tryz.prog 142 [.slice none 0 0] 24 := isElem_mk (by kernel_rfl) rfl (by simp)
instance : IsScalar Tryz.prog 143 := isScalar_mk (by kernel_rfl)
instance : HasSize Tryz.prog 143 1 := hasSize_mk (by kernel_rfl)
instance : IsZero Tryz.prog 143 [.nilFunc] := isZero_mk (b := 8) (by kernel_rfl) rfl
instance : IsElem Tryz.prog 143 [.nilFunc] 8 := isElem_mk (by kernel_rfl) rfl (by simp)
instance : IsScalar Tryz.prog 144 := isScalar_mk (by kernel_rfl)
instance : HasSize Tryz.prog 144 1 := hasSize_mk (by kernel_rfl)
instance : IsZero Tryz.prog 144 [.nilFunc] := isZero_mk (b := 8) (by kernel_rfl) rfl
instance : IsElem Tryz.prog 144 [.nilFunc] 8 := isElem_mk (by kernel_rfl) rfl (by simp)
instance : IsScalar Tryz.prog 145 := isScalar_mk (by kernel_rfl)
instance : IsInt Tryz.prog 145 .u64 := ⟨by kernel_rfl⟩
instance : HasTy Tryz.prog 145 := ⟨by kernel_rfl⟩
instance : HasSize Tryz.prog 145 1 := hasSize_mk (by kernel_rfl)
instance : IsZero Tryz.prog 145 [.int .u64 0] := isZero_mk (b := 8) (by kernel_rfl) rfl
instance : IsElem Tryz.prog 145 [.int .u64 0] 8 := isElem_mk (by kernel_rfl) rfl (by simp)
instance : IsScalar Tryz.prog 146 := isScalar_mk (by kernel_rfl)
instance : HasSize Tryz.prog 146 1 := hasSize_mk (by kernel_rfl)
instance : IsZero Tryz.prog 146 [.pointer none] := isZero_mk (b := 8) (by kernel_rfl) rfl
instance : IsElem Tryz.prog 146 [.pointer none] 8 := isElem_mk (by kernel_rfl) rfl (by simp)
instance : IsAgg Tryz.prog 147 4 := isAgg_mk (by kernel_rfl)
instance : IsBuild Tryz.prog 147 [.slice none 0 0, .slice none 0 0, .slice none 0 0, .int .i64 0] [(0, 3), (3, 1)] := ⟨by kernel_rfl, rfl⟩
instance : IsField Tryz.prog 147 0 0 := isField_mk (by kernel_rfl)
instance : IsField Tryz.prog 147 1 3 := isField_mk (by kernel_rfl)
instance : HasSize Tryz.prog 147 4 := hasSize_mk (by kernel_rfl)
instance : IsZero Tryz.prog 147 [.slice none 0 0, .slice none 0 0, .slice none 0 0, .int .i64 0] := isZero_mk (b := 80) (by kernel_rfl) rfl
instance : IsElem Tryz.prog 147 [.slice none 0 0, .slice none 0 0, .slice none 0 0, .int .i64 0] 80 := isElem_mk (by kernel_rfl) rfl (by simp)
instance : IsAgg Tryz.prog 148 4 := isAgg_mk (by kernel_rfl)
instance : IsBuild Tryz.prog 148 [.slice none 0 0, .slice none 0 0, .slice none 0 0, .int .i64 0] [(0, 3), (3, 1)] := ⟨by kernel_rfl, rfl⟩
instance : IsField Tryz.prog 148 0 0 := isField_mk (by kernel_rfl)
instance : IsField Tryz.prog 148 1 3 := isField_mk (by kernel_rfl)
instance : HasSize Tryz.prog 148 4 := hasSize_mk (by kernel_rfl)
instance : IsZero Tryz.prog 148 [.slice none 0 0, .slice none 0 0, .slice none 0 0, .int .i64 0] := isZero_mk (b := 80) (by kernel_rfl) rfl
instance : IsElem Tryz.prog 148 [.slice none 0 0, .slice none 0 0, .slice none 0 0, .int .i64 0] 80 := isElem_mk (by kernel_rfl) rfl (by simp)
instance : IsScalar Tryz.prog 149 := isScalar_mk (by kernel_rfl)
instance : HasSize Tryz.prog 149 1 := hasSize_mk (by kernel_rfl)
instance : IsZero Tryz.prog 149 [.nilFunc] := isZero_mk (b := 8) (by kernel_rfl) rfl
instance : IsElem Tryz.prog 149 [.nilFunc] 8 := isElem_mk (by kernel_rfl) rfl (by simp)
instance : IsScalar Tryz.prog 150 := isScalar_mk (by kernel_rfl)
instance : HasSize Tryz.prog 150 1 := hasSize_mk (by kernel_rfl)
instance : IsZero Tryz.prog 150 [.nilFunc] := isZero_mk (b := 8) (by kernel_rfl) rfl
instance : IsElem Tryz.prog 150 [.nilFunc] 8 := isElem_mk (by kernel_rfl) rfl (by simp)
instance : IsScalar Tryz.prog 151 := isScalar_mk (by kernel_rfl)
instance : HasSize Tryz.prog 151 1 := hasSize_mk (by kernel_rfl)
instance : IsZero Tryz.prog 151 [.nilFunc] := isZero_mk (b := 8) (by kernel_rfl) rfl
instance : IsElem Tryz.prog 151 [.nilFunc] 8 := isElem_mk (by kernel_rfl) rfl (by simp)
instance : IsScalar Tryz.prog 152 := isScalar_mk (by kernel_rfl)
instance : HasSize Tryz.prog 152 1 := hasSize_mk (by kernel_rfl)
instance : IsZero Tryz.prog 152 [.nilFunc] := isZero_mk (b := 8) (by kernel_rfl) rfl
instance : IsElem Tryz.prog 152 [.nilFunc] 8 := isElem_mk (by kernel_rfl) rfl (by simp)
instance : IsScalar Tryz.prog 153 := isScalar_mk (by kernel_rfl)
instance : HasSize Tryz.prog 153 1 := hasSize_mk (by kernel_rfl)
instance : IsZero Tryz.prog 153 [.nilFunc] := isZero_mk (b := 8) (by kernel_rfl) rfl
instance : IsElem Tryz.prog 153 [.nilFunc] 8 := isElem_mk (by kernel_rfl) rfl (by simp)
instance : IsScalar Tryz.prog 154 := isScalar_mk (by kernel_rfl)
instance : HasSize Tryz.prog 154 1 := hasSize_mk (by kernel_rfl)
instance : IsZero Tryz.prog 154 [.nilFunc] := isZero_mk (b := 8) (by kernel_rfl) rfl
instance : IsElem Tryz.prog 154 [.nilFunc] 8 := isElem_mk (by kernel_rfl) rfl (by simp)
instance : IsScalar Tryz.prog 156 := isScalar_mk (by kernel_rfl)
instance : HasSize Tryz.prog 156 1 := hasSize_mk (by kernel_rfl)
instance : IsZero Tryz.prog 156 [.nilFunc] := isZero_mk (b := 8) (by kernel_rfl) rfl
instance : IsElem Tryz.prog 156 [.nilFunc] 8 := isElem_mk (by kernel_rfl) rfl (by simp)
instance : IsScalar Tryz.prog 157 := isScalar_mk (by kernel_rfl)
instance : HasSize Tryz.prog 157 1 := hasSize_mk (by kernel_rfl)
instance : IsZero Tryz.prog 157 [.nilFunc] := isZero_mk (b := 8) (by kernel_rfl) rfl
instance : IsElem Tryz.prog 157 [.nilFunc] 8 := isElem_mk (by kernel_rfl) rfl (by simp)
instance : IsScalar Tryz.prog 158 := isScalar_mk (by kernel_rfl)
instance : HasSize Tryz.prog 158 1 := hasSize_mk (by kernel_rfl)
instance : IsZero Tryz.prog 158 [.nilFunc] := isZero_mk (b := 8) (by kernel_rfl) rfl
instance : IsElem Tryz.prog 158 [.nilFunc] 8 := isElem_mk (by kernel_rfl) rfl (by simp)
instance : IsScalar Tryz.prog 160 := isScalar_mk (by kernel_rfl)
instance : HasSize Tryz.prog 160 1 := hasSize_mk (by kernel_rfl)
instance : IsZero Tryz.prog 160 [.nilFunc] := isZero_mk (b := 8) (by kernel_rfl) rfl
instance : IsElem Tryz.prog 160 [.nilFunc] 8 := isElem_mk (by kernel_rfl) rfl (by simp)
instance : IsScalar Tryz.prog 161 := isScalar_mk (by kernel_rfl)
instance : IsSl Tryz.prog 161 5 1 := isSl_mk (by kernel_rfl) (by kernel_rfl)
instance : HasSize Tryz.prog 161 1 := hasSize_mk (by kernel_rfl)
instance : IsZero Tryz.prog 161 [.slice none 0 0] := isZero_mk (b := 24) (by kernel_rfl) rfl
instance : IsElem Tryz.prog 161 [.slice none 0 0] 24 := isElem_mk (by kernel_rfl) rfl (by simp)
instance : IsScalar Tryz.prog 162 := isScalar_mk (by kernel_rfl)
instance : HasSize Tryz.prog 162 1 := hasSize_mk (by kernel_rfl)
instance : IsZero Tryz.prog 162 [.nilFunc] := isZero_mk (b := 8) (by kernel_rfl) rfl
instance : IsElem Tryz.prog 162 [.nilFunc] 8 := isElem_mk (by kernel_rfl) rfl (by simp)
instance : IsScalar Tryz.prog 163 := isScalar_mk (by kernel_rfl)
instance : HasSize Tryz.prog 163 1 := hasSize_mk (by kernel_rfl)
instance : IsZero Tryz.prog 163 [.nilFunc] := isZero_mk (b := 8) (by kernel_rfl) rfl
instance : IsElem Tryz.prog 163 [.nilFunc] 8 := isElem_mk (by kernel_rfl) rfl (by simp)
instance : IsScalar Tryz.prog 164 := isScalar_mk (by kernel_rfl)
instance : HasSize Tryz.prog 164 1 := hasSize_mk (by kernel_rfl)
instance : IsZero Tryz.prog 164 [.nilFunc] := isZero_mk (b := 8) (by kernel_rfl) rfl
instance : IsElem Tryz.prog 164 [.nilFunc] 8 := isElem_mk (by kernel_rfl) rfl (by simp)
instance : IsScalar Tryz.prog 166 := isScalar_mk (by kernel_rfl)
instance : HasSize Tryz.prog 166 1 := hasSize_mk (by kernel_rfl)
instance : IsZero Tryz.prog 166 [.nilFunc] := isZero_mk (b := 8) (by kernel_rfl) rfl
instance : IsElem Tryz.prog 166 [.nilFunc] 8 := isElem_mk (by kernel_rfl) rfl (by simp)
instance : IsScalar Tryz.prog 167 := isScalar_mk (by kernel_rfl)
instance : HasSize Tryz.prog 167 1 := hasSize_mk (by kernel_rfl)
instance : IsZero Tryz.prog 167 [.nilFunc] := isZero_mk (b := 8) (by kernel_rfl) rfl
instance : IsElem Tryz.prog 167 [.nilFunc] 8 := isElem_mk (by kernel_rfl) rfl (by simp)
instance : IsScalar Tryz.prog 168 := isScalar_mk (by kernel_rfl)
instance : HasSize Tryz.prog 168 1 := hasSize_mk (by kernel_rfl)
instance : IsZero Tryz.prog 168 [.nilFunc] := isZero_mk (b := 8) (by kernel_rfl) rfl
instance : IsElem Tryz.prog 168 [.nilFunc] 8 := isElem_mk (by kernel_rfl) rfl (by simp)
instance : IsScalar Tryz.prog 170 := isScalar_mk (by kernel_rfl)
instance : HasSize Tryz.prog 170 1 := hasSize_mk (by kernel_rfl)
instance : IsZero Tryz.prog 170 [.nilFunc] := isZero_mk (b := 8) (by kernel_rfl) rfl
instance : IsElem Tryz.prog 170 [.nilFunc] 8 := isElem_mk (by kernel_rfl) rfl (by simp)
instance : IsScalar Tryz.prog 171 := isScalar_mk (by kernel_rfl)
instance : HasSize Tryz.prog 171 1 := hasSize_mk (by kernel_rfl)
instance : IsZero Tryz.prog 171 [.nilFunc] := isZero_mk (b := 8) (by kernel_rfl) rfl
instance : IsElem Tryz.prog 171 [.nilFunc] 8 := isElem_mk (by kernel_rfl) rfl (by simp)
instance : IsScalar Tryz.prog 172 := isScalar_mk (by kernel_rfl)
instance : HasSize Tryz.prog 172 1 := hasSize_mk (by kernel_rfl)
instance : IsZero Tryz.prog 172 [.pointer none] := isZero_mk (b := 8) (by kernel_rfl) rfl
instance : IsElem Tryz.prog 172 [.pointer none] 8 := isElem_mk (by kernel_rfl) rfl (by simp)
instance : IsScalar Tryz.prog 173 := isScalar_mk (by kernel_rfl)
instance : HasSize Tryz.prog 173 1 := hasSize_mk (by kernel_rfl)
instance : IsZero Tryz.prog 173 [.nilFunc] := isZero_mk (b := 8) (by kernel_rfl) rfl
instance : IsElem Tryz.prog 173 [.nilFunc] 8 := isElem_mk (by kernel_rfl) rfl (by simp)
instance : IsScalar Tryz.prog 174 := isScalar_mk (by kernel_rfl)
instance : IsInt Tryz.prog 174 .u64 := ⟨by kernel_rfl⟩
instance : HasTy Tryz.prog 174 := ⟨by kernel_rfl⟩
instance : HasSize Tryz.prog 174 1 := hasSize_mk (by kernel_rfl)
instance : IsZero Tryz.prog 174 [.int .u64 0] := isZero_mk (b := 8) (by kernel_rfl) rfl
instance : IsElem Tryz.prog 174 [.int .u64 0] 8 := isElem_mk (by kernel_rfl) rfl (by simp)
instance : IsScalar Tryz.prog 176 := isScalar_mk (by kernel_rfl)
instance : HasSize Tryz.prog 176 1 := hasSize_mk (by kernel_rfl)
instance : IsZero Tryz.prog 176 [.nilFunc] := isZero_mk (b := 8) (by kernel_rfl) rfl
instance : IsElem Tryz.prog 176 [.nilFunc] 8 := isElem_mk (by kernel_rfl) rfl (by simp)
instance : IsScalar Tryz.prog 178 := isScalar_mk (by kernel_rfl)
instance : HasSize Tryz.prog 178 1 := hasSize_mk (by kernel_rfl)
instance : IsZero Tryz.prog 178 [.nilFunc] := isZero_mk (b := 8) (by kernel_rfl) rfl
instance : IsElem Tryz.prog 178 [.nilFunc] 8 := isElem_mk (by kernel_rfl) rfl (by simp)
instance : IsScalar Tryz.prog 179 := isScalar_mk (by kernel_rfl)
instance : HasSize Tryz.prog 179 1 := hasSize_mk (by kernel_rfl)
instance : IsZero Tryz.prog 179 [.nilFunc] := isZero_mk (b := 8) (by kernel_rfl) rfl
instance : IsElem Tryz.prog 179 [.nilFunc] 8 := isElem_mk (by kernel_rfl) rfl (by simp)
instance : IsScalar Tryz.prog 180 := isScalar_mk (by kernel_rfl)
instance : HasSize Tryz.prog 180 1 := hasSize_mk (by kernel_rfl)
instance : IsZero Tryz.prog 180 [.nilFunc] := isZero_mk (b := 8) (by kernel_rfl) rfl
instance : IsElem Tryz.prog 180 [.nilFunc] 8 := isElem_mk (by kernel_rfl) rfl (by simp)
instance : IsScalar Tryz.prog 181 := isScalar_mk (by kernel_rfl)
instance : HasSize Tryz.prog 181 1 := hasSize_mk (by kernel_rfl)
instance : IsZero Tryz.prog 181 [.nilFunc] := isZero_mk (b := 8) (by kernel_rfl) rfl
instance : IsElem Tryz.prog 181 [.nilFunc] 8 := isElem_mk (by kernel_rfl) rfl (by simp)
instance : IsScalar Tryz.prog 184 := isScalar_mk (by kernel_rfl)
instance : HasSize Tryz.prog 184 1 := hasSize_mk (by kernel_rfl)
instance : IsZero Tryz.prog 184 [.nilFunc] := isZero_mk (b := 8) (by kernel_rfl) rfl
instance : IsElem Tryz.prog 184 [.nilFunc] 8 := isElem_mk (by kernel_rfl) rfl (by simp)
instance : IsScalar Tryz.prog 186 := isScalar_mk (by kernel_rfl)
instance : HasSize Tryz.prog 186 1 := hasSize_mk (by kernel_rfl)
instance : IsZero Tryz.prog 186 [.nilFunc] := isZero_mk (b := 8) (by kernel_rfl) rfl
instance : IsElem Tryz.prog 186 [.nilFunc] 8 := isElem_mk (by kernel_rfl) rfl (by simp)
instance : IsScalar Tryz.prog 188 := isScalar_mk (by kernel_rfl)
instance : HasSize Tryz.prog 188 1 := hasSize_mk (by kernel_rfl)
instance : IsZero Tryz.prog 188 [.nilFunc] := isZero_mk (b := 8) (by kernel_rfl) rfl
instance : IsElem Tryz.prog 188 [.nilFunc] 8 := isElem_mk (by kernel_rfl) rfl (by simp)
instance : IsScalar Tryz.prog 189 := isScalar_mk (by kernel_rfl)
instance : HasSize Tryz.prog 189 1 := hasSize_mk (by kernel_rfl)
instance : IsZero Tryz.prog 189 [.nilFunc] := isZero_mk (b := 8) (by kernel_rfl) rfl
instance : IsElem Tryz.prog 189 [.nilFunc] 8 := isElem_mk (by kernel_rfl) rfl (by simp)
instance : IsScalar Tryz.prog 190 := isScalar_mk (by kernel_rfl)
instance : HasSize Tryz.prog 190 1 := hasSize_mk (by kernel_rfl)
instance : IsZero Tryz.prog 190 [.nilFunc] := isZero_mk (b := 8) (by kernel_rfl) rfl
instance : IsElem Tryz.prog 190 [.nilFunc] 8 := isElem_mk (by kernel_rfl) rfl (by simp)
instance : IsScalar Tryz.prog 191 := isScalar_mk (by kernel_rfl)
instance : HasSize Tryz.prog 191 1 := hasSize_mk (by kernel_rfl)
instance : IsZero Tryz.prog 191 [.nilFunc] := isZero_mk (b := 8) (by kernel_rfl) rfl
instance : IsElem Tryz.prog 191 [.nilFunc] 8 := isElem_mk (by kernel_rfl) rfl (by simp)
instance : IsScalar Tryz.prog 192 := isScalar_mk (by kernel_rfl)
instance : HasSize Tryz.prog 192 1 := hasSize_mk (by kernel_rfl)
instance : IsZero Tryz.prog 192 [.nilFunc] := isZero_mk (b := 8) (by kernel_rfl) rfl
instance : IsElem Tryz.prog 192 [.nilFunc] 8 := isElem_mk (by kernel_rfl) rfl (by simp)
instance : IsScalar Tryz.prog 193 := isScalar_mk (by kernel_rfl)
instance : HasSize Tryz.prog 193 1 := hasSize_mk (by kernel_rfl)
instance : IsZero Tryz.prog 193 [.nilFunc] := isZero_mk (b := 8) (by kernel_rfl) rfl
instance : IsElem Tryz.prog 193 [.nilFunc] 8 := isElem_mk (by kernel_rfl) rfl (by simp)
instance : IsScalar Tryz.prog 194 := isScalar_mk (by kernel_rfl)
instance : HasSize Tryz.prog 194 1 := hasSize_mk (by kernel_rfl)
instance : IsZero Tryz.prog 194 [.nilFunc] := isZero_mk (b := 8) (by kernel_rfl) rfl
instance : IsElem Tryz.prog 194 [.nilFunc] 8 := isElem_mk (by kernel_rfl) rfl (by simp)
instance : IsScalar Tryz.prog 195 := isScalar_mk (by kernel_rfl)
instance : HasSize Tryz.prog 195 1 := hasSize_mk (by kernel_rfl)
instance : IsZero Tryz.prog 195 [.nilFunc] := isZero_mk (b := 8) (by kernel_rfl) rfl
instance : IsElem Tryz.prog 195 [.nilFunc] 8 := isElem_mk (by kernel_rfl) rfl (by simp)
instance : IsScalar Tryz.prog 196 := isScalar_mk (by kernel_rfl)
instance : HasSize Tryz.prog 196 1 := hasSize_mk (by kernel_rfl)
instance : IsZero Tryz.prog 196 [.nilFunc] := isZero_mk (b := 8) (by kernel_rfl) rfl
instance : IsElem Tryz.prog 196 [.nilFunc] 8 := isElem_mk (by kernel_rfl) rfl (by simp)
instance : IsScalar Tryz.prog 197 := isScalar_mk (by kernel_rfl)
instance : HasSize Tryz.prog 197 1 := hasSize_mk (by kernel_rfl)
instance : IsZero Tryz.prog 197 [.nilFunc] := isZero_mk (b := 8) (by kernel_rfl) rfl
instance : IsElem Tryz.prog 197 [.nilFunc] 8 := isElem_mk (by kernel_rfl) rfl (by simp)
instance : IsScalar Tryz.prog 198 := isScalar_mk (by kernel_rfl)
instance : HasSize Tryz.prog 198 1 := hasSize_mk (by kernel_rfl)
instance : IsZero Tryz.prog 198 [.nilFunc] := isZero_mk (b := 8) (by kernel_rfl) rfl
instance : IsElem Tryz.prog 198 [.nilFunc] 8 := isElem_mk (by kernel_rfl) rfl (by simp)
instance : IsScalar Tryz.prog 199 := isScalar_mk (by kernel_rfl)
instance : HasSize Tryz.prog 199 1 := hasSize_mk (by kernel_rfl)
instance : IsZero Tryz.prog 199 [.nilFunc] := isZero_mk (b := 8) (by kernel_rfl) rfl
instance : IsElem Tryz.prog 199 [.nilFunc] 8 := isElem_mk (by kernel_rfl) rfl (by simp)
instance : IsAgg Tryz.prog 200 2 := isAgg_mk (by kernel_rfl)
instance : IsBuild Tryz.prog 200 [.bool false, .slice none 0 0] [(0, 2)] := ⟨by kernel_rfl, rfl⟩
instance : IsField Tryz.prog 200 0 0 := isField_mk (by kernel_rfl)
instance : HasSize Tryz.prog 200 2 := hasSize_mk (by kernel_rfl)
instance : IsZero Tryz.prog 200 [.bool false, .slice none 0 0] := isZero_mk (b := 32) (by kernel_rfl) rfl
instance : IsElem Tryz.prog 200 [.bool false, .slice none 0 0] 32 := isElem_mk (by kernel_rfl) rfl (by simp)
instance : IsAgg Tryz.prog 201 2 := isAgg_mk (by kernel_rfl)
instance : IsBuild Tryz.prog 201 [.bool false, .slice none 0 0] [(0, 2)] := ⟨by kernel_rfl, rfl⟩
instance : IsField Tryz.prog 201 0 0 := isField_mk (by kernel_rfl)
instance : HasSize Tryz.prog 201 2 := hasSize_mk (by kernel_rfl)
instance : IsZero Tryz.prog 201 [.bool false, .slice none 0 0] := isZero_mk (b := 32) (by kernel_rfl) rfl
instance : IsElem Tryz.prog 201 [.bool false, .slice none 0 0] 32 := isElem_mk (by kernel_rfl) rfl (by simp)
instance : IsScalar Tryz.prog 203 := isScalar_mk (by kernel_rfl)
instance : HasSize Tryz.prog 203 1 := hasSize_mk (by kernel_rfl)
instance : IsZero Tryz.prog 203 [.nilFunc] := isZero_mk (b := 8) (by kernel_rfl) rfl
instance : IsElem Tryz.prog 203 [.nilFunc] 8 := isElem_mk (by kernel_rfl) rfl (by simp)
instance : IsScalar Tryz.prog 204 := isScalar_mk (by kernel_rfl)
instance : HasSize Tryz.prog 204 1 := hasSize_mk (by kernel_rfl)
instance : IsZero Tryz.prog 204 [.nilFunc] := isZero_mk (b := 8) (by kernel_rfl) rfl
instance : IsElem Tryz.prog 204 [.nilFunc] 8 := isElem_mk (by kernel_rfl) rfl (by simp)
instance : IsScalar Tryz.prog 205 := isScalar_mk (by kernel_rfl)
instance : HasSize Tryz.prog 205 1 := hasSize_mk (by kernel_rfl)
instance : IsZero Tryz.prog 205 [.nilFunc] := isZero_mk (b := 8) (by kernel_rfl) rfl
instance : IsElem Tryz.prog 205 [.nilFunc] 8 := isElem_mk (by kernel_rfl) rfl (by simp)
instance : IsScalar Tryz.prog 206 := isScalar_mk (by kernel_rfl)
instance : HasSize Tryz.prog 206 1 := hasSize_mk (by kernel_rfl)
instance : IsZero Tryz.prog 206 [.nilFunc] := isZero_mk (b := 8) (by kernel_rfl) rfl
instance : IsElem Tryz.prog 206 [.nilFunc] 8 := isElem_mk (by kernel_rfl) rfl (by simp)
instance : IsScalar Tryz.prog 207 := isScalar_mk (by kernel_rfl)
instance : HasSize Tryz.prog 207 1 := hasSize_mk (by kernel_rfl)
instance : IsZero Tryz.prog 207 [.nilFunc] := isZero_mk (b := 8) (by kernel_rfl) rfl
instance : IsElem Tryz.prog 207 [.nilFunc] 8 := isElem_mk (by kernel_rfl) rfl (by simp)
instance : IsAgg Tryz.prog 208 3 := isAgg_mk (by kernel_rfl)
instance : IsBuild Tryz.prog 208 [.int .i64 0, .int .i64 0, .int .i64 0] [(0, 1), (1, 1), (2, 1)] := ⟨by kernel_rfl, rfl⟩
instance : IsArr Tryz.prog 208 3 1 := ⟨3, by kernel_rfl, by kernel_rfl⟩
instance : HasSize Tryz.prog 208 3 := hasSize_mk (by kernel_rfl)
instance : IsZero Tryz.prog 208 [.int .i64 0, .int .i64 0, .int .i64 0] := isZero_mk (b := 24) (by kernel_rfl) rfl
instance : IsElem Tryz.prog 208 [.int .i64 0, .int .i64 0, .int .i64 0] 24 := isElem_mk (by kernel_rfl) rfl (by simp)
instance : IsScalar Tryz.prog 210 := isScalar_mk (by kernel_rfl)
instance : HasSize Tryz.prog 210 1 := hasSize_mk (by kernel_rfl)
instance : IsZero Tryz.prog 210 [.nilFunc] := isZero_mk (b := 8) (by kernel_rfl) rfl
instance : IsElem Tryz.prog 210 [.nilFunc] 8 := isElem_mk (by kernel_rfl) rfl (by simp)
instance : IsScalar Tryz.prog 211 := isScalar_mk (by kernel_rfl)
instance : HasSize Tryz.prog 211 1 := hasSize_mk (by kernel_rfl)
instance : IsZero Tryz.prog 211 [.nilFunc] := isZero_mk (b := 8) (by kernel_rfl) rfl
instance : IsElem Tryz.prog 211 [.nilFunc] 8 := isElem_mk (by kernel_rfl) rfl (by simp)
instance : IsScalar Tryz.prog 212 := isScalar_mk (by kernel_rfl)
instance : HasSize Tryz.prog 212 1 := hasSize_mk (by kernel_rfl)
instance : IsZero Tryz.prog 212 [.nilFunc] := isZero_mk (b := 8) (by kernel_rfl) rfl
instance : IsElem Tryz.prog 212 [.nilFunc] 8 := isElem_mk (by kernel_rfl) rfl (by simp)
instance : IsScalar Tryz.prog 213 := isScalar_mk (by kernel_rfl)
instance : HasSize Tryz.prog 213 1 := hasSize_mk (by kernel_rfl)
instance : IsZero Tryz.prog 213 [.nilFunc] := isZero_mk (b := 8) (by kernel_rfl) rfl
instance : IsElem Tryz.prog 213 [.nilFunc] 8 := isElem_mk (by kernel_rfl) rfl (by simp)
instance : IsScalar Tryz.prog 214 := isScalar_mk (by kernel_rfl)
instance : IsSl Tryz.prog 214 24 1 := isSl_mk (by kernel_rfl) (by kernel_rfl)
instance : HasSize Tryz.prog 214 1 := hasSize_mk (by kernel_rfl)
instance : IsZero Tryz.prog 214 [.slice none 0 0] := isZero_mk (b := 24) (by kernel_rfl) rfl
instance : IsElem Tryz.prog 214 [.slice none 0 0] 24 := isElem_mk (by kernel_rfl) rfl (by simp)
instance : IsScalar Tryz.prog 215 := isScalar_mk (by kernel_rfl)
instance : HasSize Tryz.prog 215 1 := hasSize_mk (by kernel_rfl)
instance : IsZero Tryz.prog 215 [.nilFunc] := isZero_mk (b := 8) (by kernel_rfl) rfl
instance : IsElem Tryz.prog 215 [.nilFunc] 8 := isElem_mk (by kernel_rfl) rfl (by simp)
instance : IsScalar Tryz.prog 216 := isScalar_mk (by kernel_rfl)
instance : HasSize Tryz.prog 216 1 := hasSize_mk (by kernel_rfl)
instance : IsZero Tryz.prog 216 [.nilFunc] := isZero_mk (b := 8) (by kernel_rfl) rfl
instance : IsElem Tryz.prog 216 [.nilFunc] 8 := isElem_mk (by kernel_rfl) rfl (by simp)
instance : IsScalar Tryz.prog 217 := isScalar_mk (by kernel_rfl)
instance : HasSize Tryz.prog 217 1 := hasSize_mk (by kernel_rfl)
instance : IsZero Tryz.prog 217 [.nilFunc] := isZero_mk (b := 8) (by kernel_rfl) rfl
instance : IsElem Tryz.prog 217 [.nilFunc] 8 := isElem_mk (by kernel_rfl) rfl (by simp)
instance : IsScalar Tryz.prog 218 := isScalar_mk (by kernel_rfl)
instance : HasSize Tryz.prog 218 1 := hasSize_mk (by kernel_rfl)
instance : IsZero Tryz.prog 218 [.nilFunc] := isZero_mk (b := 8) (by kernel_rfl) rfl
instance : IsElem Tryz.prog 218 [.nilFunc] 8 := isElem_mk (by kernel_rfl) rfl (by simp)
instance : IsScalar Tryz.prog 219 := isScalar_mk (by kernel_rfl)
instance : HasSize Tryz.prog 219 1 := hasSize_mk (by kernel_rfl)
instance : IsZero Tryz.prog 219 [.nilFunc] := isZero_mk (b := 8) (by kernel_rfl) rfl
instance : IsElem Tryz.prog 219 [.nilFunc] 8 := isElem_mk (by kernel_rfl) rfl (by simp)
instance : IsScalar Tryz.prog 220 := isScalar_mk (by kernel_rfl)
instance : HasSize Tryz.prog 220 1 := hasSize_mk (by kernel_rfl)
instance : IsZero Tryz.prog 220 [.nilFunc] := isZero_mk (b := 8) (by kernel_rfl) rfl
instance : IsElem Tryz.prog 220 [.nilFunc] 8 := isElem_mk (by kernel_rfl) rfl (by simp)
instance : IsScalar Tryz.prog 221 := isScalar_mk (by kernel_rfl)
instance : HasSize Tryz.prog 221 1 := hasSize_mk (by kernel_rfl)
instance : IsZero Tryz.prog 221 [.nilFunc] := isZero_mk (b := 8) (by kernel_rfl) rfl
instance : IsElem Tryz.prog 221 [.nilFunc] 8 := isElem_mk (by kernel_rfl) rfl (by simp)
instance : IsScalar Tryz.prog 222 := isScalar_mk (by kernel_rfl)
instance : HasSize Tryz.prog 222 1 := hasSize_mk (by kernel_rfl)
instance : IsZero Tryz.prog 222 [.nilFunc] := isZero_mk (b := 8) (by kernel_rfl) rfl
instance : IsElem Tryz.prog 222 [.nilFunc] 8 := isElem_mk (by kernel_rfl) rfl (by simp)
instance : IsScalar Tryz.prog 223 := isScalar_mk (by kernel_rfl)
instance : HasSize Tryz.prog 223 1 := hasSize_mk (by kernel_rfl)
instance : IsZero Tryz.prog 223 [.nilFunc] := isZero_mk (b := 8) (by kernel_rfl) rfl
instance : IsElem Tryz.prog 223 [.nilFunc] 8 := isElem_mk (by kernel_rfl) rfl (by simp)
instance : IsScalar Tryz.prog 224 := isScalar_mk (by kernel_rfl)
instance : HasSize Tryz.prog 224 1 := hasSize_mk (by kernel_rfl)
instance : IsZero Tryz.prog 224 [.nilFunc] := isZero_mk (b := 8) (by kernel_rfl) rfl
instance : IsElem Tryz.prog 224 [.nilFunc] 8 := isElem_mk (by kernel_rfl) rfl (by simp)
instance : IsScalar Tryz.prog 225 := isScalar_mk (by kernel_rfl)
instance : HasSize Tryz.prog 225 1 := hasSize_mk (by kernel_rfl)
instance : IsZero Tryz.prog 225 [.nilFunc] := isZero_mk (b := 8) (by kernel_rfl) rfl
instance : IsElem Tryz.prog 225 [.nilFunc] 8 := isElem_mk (by kernel_rfl) rfl (by simp)
instance : IsScalar Tryz.prog 226 := isScalar_mk (by kernel_rfl)
instance : HasSize Tryz.prog 226 1 := hasSize_mk (by kernel_rfl)
instance : IsZero Tryz.prog 226 [.nilFunc] := isZero_mk (b := 8) (by kernel_rfl) rfl
instance : IsElem Tryz.prog 226 [.nilFunc] 8 := isElem_mk (by kernel_rfl) rfl (by simp)
instance : IsScalar Tryz.prog 227 := isScalar_mk (by kernel_rfl)
instance : HasSize Tryz.prog 227 1 := hasSize_mk (by kernel_rfl)
instance : IsZero Tryz.prog 227 [.nilFunc] := isZero_mk (b := 8) (by kernel_rfl) rfl
instance : IsElem Tryz.prog 227 [.nilFunc] 8 := isElem_mk (by kernel_rfl) rfl (by simp)
instance : IsScalar Tryz.prog 228 := isScalar_mk (by kernel_rfl)
instance : HasSize Tryz.prog 228 1 := hasSize_mk (by kernel_rfl)
instance : IsZero Tryz.prog 228 [.nilFunc] := isZero_mk (b := 8) (by kernel_rfl) rfl
instance : IsElem Tryz.prog 228 [.nilFunc] 8 := isElem_mk (by kernel_rfl) rfl (by simp)
instance : IsScalar Tryz.prog 229 := isScalar_mk (by kernel_rfl)
instance : HasSize Tryz.prog 229 1 := hasSize_mk (by kernel_rfl)
instance : IsZero Tryz.prog 229 [.nilFunc] := isZero_mk (b := 8) (by kernel_rfl) rfl
instance : IsElem Tryz.prog 229 [.nilFunc] 8 := isElem_mk (by kernel_rfl) rfl (by simp)
instance : IsScalar Tryz.prog 230 := isScalar_mk (by kernel_rfl)
instance : HasSize Tryz.prog 230 1 := hasSize_mk (by kernel_rfl)
instance : IsZero Tryz.prog 230 [.nilFunc] := isZero_mk (b := 8) (by kernel_rfl) rfl
instance : IsElem Tryz.prog 230 [.nilFunc] 8 := isElem_mk (by kernel_rfl) rfl (by simp)
instance : IsScalar Tryz.prog 231 := isScalar_mk (by kernel_rfl)
instance : HasSize Tryz.prog 231 1 := hasSize_mk (by kernel_rfl)
instance : IsZero Tryz.prog 231 [.nilFunc] := isZero_mk (b := 8) (by kernel_rfl) rfl
instance : IsElem Tryz.prog 231 [.nilFunc] 8 := isElem_mk (by kernel_rfl) rfl (by simp)
instance : IsScalar Tryz.prog 232 := isScalar_mk (by kernel_rfl)
instance : HasSize Tryz.prog 232 1 := hasSize_mk (by kernel_rfl)
instance : IsZero Tryz.prog 232 [.nilFunc] := isZero_mk (b := 8) (by kernel_rfl) rfl
instance : IsElem Tryz.prog 232 [.nilFunc] 8 := isElem_mk (by kernel_rfl) rfl (by simp)
instance : IsScalar Tryz.prog 233 := isScalar_mk (by kernel_rfl)
instance : HasSize Tryz.prog 233 1 := hasSize_mk (by kernel_rfl)
instance : IsZero Tryz.prog 233 [.nilFunc] := isZero_mk (b := 8) (by kernel_rfl) rfl
instance : IsElem Tryz.prog 233 [.nilFunc] 8 := isElem_mk (by kernel_rfl) rfl (by simp)
instance : IsScalar Tryz.prog 234 := isScalar_mk (by kernel_rfl)
instance : HasSize Tryz.prog 234 1 := hasSize_mk (by kernel_rfl)
instance : IsZero Tryz.prog 234 [.nilFunc] := isZero_mk (b := 8) (by kernel_rfl) rfl
instance : IsElem Tryz.prog 234 [.nilFunc] 8 := isElem_mk (by kernel_rfl) rfl (by simp)
instance : IsScalar Tryz.prog 236 := isScalar_mk (by kernel_rfl)
instance : HasSize Tryz.prog 236 1 := hasSize_mk (by kernel_rfl)
instance : IsZero Tryz.prog 236 [.nilFunc] := isZero_mk (b := 8) (by kernel_rfl) rfl
instance : IsElem Tryz.prog 236 [.nilFunc] 8 := isElem_mk (by kernel_rfl) rfl (by simp)
instance : IsScalar Tryz.prog 237 := isScalar_mk (by kernel_rfl)
instance : HasSize Tryz.prog 237 1 := hasSize_mk (by kernel_rfl)
instance : IsZero Tryz.prog 237 [.nilFunc] := isZero_mk (b := 8) (by kernel_rfl) rfl
instance : IsElem Tryz.prog 237 [.nilFunc] 8 := isElem_mk (by kernel_rfl) rfl (by simp)
instance : IsScalar Tryz.prog 238 := isScalar_mk (by kernel_rfl)
instance : HasSize Tryz.prog 238 1 := hasSize_mk (by kernel_rfl)
instance : IsZero Tryz.prog 238 [.pointer none] := isZero_mk (b := 8) (by kernel_rfl) rfl
instance : IsElem Tryz.prog 238 [.pointer none] 8 := isElem_mk (by kernel_rfl) rfl (by simp)
instance : IsAgg Tryz.prog 239 2 := isAgg_mk (by kernel_rfl)
instance : IsBuild Tryz.prog 239 [.slice none 0 0, .slice none 0 0] [(0, 1), (1, 1)] := ⟨by kernel_rfl, rfl⟩
instance : IsField Tryz.prog 239 0 0 := isField_mk (by kernel_rfl)
instance : IsField Tryz.prog 239 1 1 := isField_mk (by kernel_rfl)
instance : HasSize Tryz.prog 239 2 := hasSize_mk (by kernel_rfl)
instance : IsZero Tryz.prog 239 [.slice none 0 0, .slice none 0 0] := isZero_mk (b := 48) (by kernel_rfl) rfl
instance : IsElem Tryz.prog 239 [.slice none 0 0, .slice none 0 0] 48 := isElem_mk (by kernel_rfl) rfl (by simp)
instance : IsAgg Tryz.prog 240 2 := isAgg_mk (by kernel_rfl)
instance : IsBuild Tryz.prog 240 [.slice none 0 0, .slice none 0 0] [(0, 1), (1, 1)] := ⟨by kernel_rfl, rfl⟩
instance : IsField Tryz.prog 240 0 0 := isField_mk (by kernel_rfl)
instance : IsField Tryz.prog 240 1 1 := isField_mk (by kernel_rfl)
instance : HasSize Tryz.prog 240 2 := hasSize_mk (by kernel_rfl)
instance : IsZero Tryz.prog 240 [.slice none 0 0, .slice none 0 0] := isZero_mk (b := 48) (by kernel_rfl) rfl
instance : IsElem Tryz.prog 240 [.slice none 0 0, .slice none 0 0] 48 := isElem_mk (by kernel_rfl) rfl (by simp)
instance : IsScalar Tryz.prog 241 := isScalar_mk (by kernel_rfl)
instance : HasSize Tryz.prog 241 1 := hasSize_mk (by kernel_rfl)
instance : IsZero Tryz.prog 241 [.nilFunc] := isZero_mk (b := 8) (by kernel_rfl) rfl
instance : IsElem Tryz.prog 241 [.nilFunc] 8 := isElem_mk (by kernel_rfl) rfl (by simp)
instance : IsScalar Tryz.prog 242 := isScalar_mk (by kernel_rfl)
instance : HasSize Tryz.prog 242 1 := hasSize_mk (by kernel_rfl)
instance : IsZero Tryz.prog 242 [.nilFunc] := isZero_mk (b := 8) (by kernel_rfl) rfl
instance : IsElem Tryz.prog 242 [.nilFunc] 8 := isElem_mk (by kernel_rfl) rfl (by simp)
instance : IsScalar Tryz.prog 243 := isScalar_mk (by kernel_rfl)
instance : HasSize Tryz.prog 243 1 := hasSize_mk (by kernel_rfl)
instance : IsZero Tryz.prog 243 [.nilFunc] := isZero_mk (b := 8) (by kernel_rfl) rfl
instance : IsElem Tryz.prog 243 [.nilFunc] 8 := isElem_mk (by kernel_rfl) rfl (by simp)
instance : IsScalar Tryz.prog 244 := isScalar_mk (by kernel_rfl)
instance : HasSize Tryz.prog 244 1 := hasSize_mk (by kernel_rfl)
instance : IsZero Tryz.prog 244 [.nilFunc] := isZero_mk (b := 8) (by kernel_rfl) rfl
instance : IsElem Tryz.prog 244 [.nilFunc] 8 := isElem_mk (by kernel_rfl) rfl (by simp)
instance : IsScalar Tryz.prog 245 := isScalar_mk (by kernel_rfl)
instance : HasSize Tryz.prog 245 1 := hasSize_mk (by kernel_rfl)
instance : IsZero Tryz.prog 245 [.nilFunc] := isZero_mk (b := 8) (by kernel_rfl) rfl
instance : IsElem Tryz.prog 245 [.nilFunc] 8 := isElem_mk (by kernel_rfl) rfl (by simp)
instance : IsAgg Tryz.prog 246 64 := isAgg_mk (by kernel_rfl)
instance : IsBuild Tryz.prog 246 [.int .u8 0, .int .u8 0, .int .u8 0, .int .u8 0, .int .u8 0, .int .u8 0, .int .u8 0, .int .u8 0, .int .u8 0, .int .u8 0, .int .u8 0, .int .u8 0, .int .u8 0, .int .u8 0, .int .u8 0, .int .u8 0, .int .u8 0, .int .u8 0, .int .u8 0, .int .u8 0, .int .u8 0, .int .u8 0, .int .u8 0, .int .u8 0, .int .u8 0, .int .u8 0, .int .u8 0, .int .u8 0, .int .u8 0, .int .u8 0, .int .u8 0, .int .u8 0, .int .u8 0, .int .u8 0, .int .u8 0, .int .u8 0, .int .u8 0, .int .u8 0, .int .u8 0, .int .u8 0, .int .u8 0, .int .u8 0, .int .u8 0, .int .u8 0, .int .u8 0, .int .u8 0, .int .u8 0, .int .u8 0, .int .u8 0, .int .u8 0, .int .u8 0, .int .u8 0, .int .u8 0, .int .u8 0, .int .u8 0, .int .u8 0, .int .u8 0, .int .u8 0, .int .u8 0, .int .u8 0, .int .u8 0, .int .u8 0, .int .u8 0, .int .u8 0] [(0, 1), (1, 1), (2, 1), (3, 1), (4, 1), (5, 1), (6, 1), (7, 1), (8, 1), (9, 1), (10, 1), (11, 1), (12, 1), (13, 1), (14, 1), (15, 1), (16, 1), (17, 1), (18, 1), (19, 1), (20, 1), (21, 1), (22, 1), (23, 1), (24, 1), (25, 1), (26, 1), (27, 1), (28, 1), (29, 1), (30, 1), (31, 1), (32, 1), (33, 1), (34, 1), (35, 1), (36, 1), (37, 1), (38, 1), (39, 1), (40, 1), (41, 1), (42, 1), (43, 1), (44, 1), (45, 1), (46, 1), (47, 1), (48, 1), (49, 1), (50, 1), (51, 1), (52, 1), (53, 1), (54, 1), (55, 1), (56, 1), (57, 1), (58, 1), (59, 1), (60, 1), (61, 1), (62, 1), (63, 1)] := ⟨by kernel_rfl, rfl⟩
instance : IsArr Tryz.prog 246 64 1 := ⟨5, by kernel_rfl, by kernel_rfl⟩
instance : HasSize Tryz.prog 246 64 := hasSize_mk (by kernel_rfl)
instance : IsZero Tryz.prog 246 [.int .u8 0, .int .u8 0, .int .u8 0, .int .u8 0, .int .u8 0, .int .u8 0, .int .u8 0, .int .u8 0, .int .u8 0, .int .u8 0, .int .u8 0, .int .u8 0, .int .u8 0, .int .u8 0, .int .u8 0, .int .u8 0, .int .u8 0, .int .u8 0, .int .u8 0, .int .u8 0, .int .u8 0, .int .u8 0, .int .u8 0, .int .u8 0, .int .u8 0, .int .u8 0, .int .u8 0, .int .u8 0, .int .u8 0, .int .u8 0, .int .u8 0, .int .u8 0, .int .u8 0, .int .u8 0, .int .u8 0, .int .u8 0, .int .u8 0, .int .u8 0, .int .u8 0, .int .u8 0, .int .u8 0, .int .u8 0, .int .u8 0, .int .u8 0, .int .u8 0, .int .u8 0, .int .u8 0, .int .u8 0, .int .u8 0, .int .u8 0, .int .u8 0, .int .u8 0, .int .u8 0, .int .u8 0, .int .u8 0, .int .u8 0, .int .u8 0, .int .u8 0, .int .u8 0, .int .u8 0, .int .u8 0, .int .u8 0, .int .u8 0, .int .u8 0] := isZero_mk (b := 64) (by kernel_rfl) rfl
instance : IsElem Tryz.prog 246 [.int .u8 0, .int .u8 0, .int .u8 0, .int .u8 0, .int .u8 0, .int .u8 0, .int .u8 0, .int .u8 0, .int .u8 0, .int .u8 0, .int .u8 0, .int .u8 0, .int .u8 0, .int .u8 0, .int .u8 0, .int .u8 0, .int .u8 0, .int .u8 0, .int .u8 0, .int .u8 0, .int .u8 0, .int .u8 0, .int .u8 0, .int .u8 0, .int .u8 0, .int .u8 0, .int .u8 0, .int .u8 0, .int .u8 0, .int .u8 0, .int .u8 0, .int .u8 0, .int .u8 0, .int .u8 0, .int .u8 0, .int .u8 0, .int .u8 0, .int .u8 0, .int .u8 0, .int .u8 0, .int .u8 0, .int .u8 0, .int .u8 0, .int .u8 0, .int .u8 0, .int .u8 0, .int .u8 0, .int .u8 0, .int .u8 0, .int .u8 0, .int .u8 0, .int .u8 0, .int .u8 0, .int .u8 0, .int .u8 0, .int .u8 0, .int .u8 0, .int .u8 0, .int .u8 0, .int .u8 0, .int .u8 0, .int .u8 0, .int .u8 0, .int .u8 0] 64 := isElem_mk (by kernel_rfl) rfl (by simp)
instance : IsScalar Tryz.prog 247 := isScalar_mk (by kernel_rfl)
instance : HasSize Tryz.prog 247 1 := hasSize_mk (by kernel_rfl)
instance : IsZero Tryz.prog 247 [.nilFunc] := isZero_mk (b := 8) (by kernel_rfl) rfl
instance : IsElem Tryz.prog 247 [.nilFunc] 8 := isElem_mk (by kernel_rfl) rfl (by simp)
instance : IsScalar Tryz.prog 249 := isScalar_mk (by kernel_rfl)
instance : HasSize Tryz.prog 249 1 := hasSize_mk (by kernel_rfl)
instance : IsZero Tryz.prog 249 [.nilFunc] := isZero_mk (b := 8) (by kernel_rfl) rfl
instance : IsElem Tryz.prog 249 [.nilFunc] 8 := isElem_mk (by kernel_rfl) rfl (by simp)
instance : IsScalar Tryz.prog 250 := isScalar_mk (by kernel_rfl)
instance : HasSize Tryz.prog 250 1 := hasSize_mk (by kernel_rfl)
instance : IsZero Tryz.prog 250 [.nilFunc] := isZero_mk (b := 8) (by kernel_rfl) rfl
instance : IsElem Tryz.prog 250 [.nilFunc] 8 := isElem_mk (by kernel_rfl) rfl (by simp)
instance : IsScalar Tryz.prog 251 := isScalar_mk (by kernel_rfl)
instance : HasSize Tryz.prog 251 1 := hasSize_mk (by kernel_rfl)
instance : IsZero Tryz.prog 251 [.nilFunc] := isZero_mk (b := 8) (by kernel_rfl) rfl
instance : IsElem Tryz.prog 251 [.nilFunc] 8 := isElem_mk (by kernel_rfl) rfl (by simp)
instance : IsScalar Tryz.prog 252 := isScalar_mk (by kernel_rfl)
instance : HasSize Tryz.prog 252 1 := hasSize_mk (by kernel_rfl)
instance : IsZero Tryz.prog 252 [.nilFunc] := isZero_mk (b := 8) (by kernel_rfl) rfl
instance : IsElem Tryz.prog 252 [.nilFunc] 8 := isElem_mk (by kernel_rfl) rfl (by simp)
instance : IsScalar Tryz.prog 254 := isScalar_mk (by kernel_rfl)
instance : HasSize Tryz.prog 254 1 := hasSize_mk (by kernel_rfl)
instance : IsZero Tryz.prog 254 [.nilFunc] := isZero_mk (b := 8) (by kernel_rfl) rfl
instance : IsElem Tryz.prog 254 [.nilFunc] 8 := isElem_mk (by kernel_rfl) rfl (by simp)
instance : IsScalar Tryz.prog 255 := isScalar_mk (by kernel_rfl)
instance : HasSize Tryz.prog 255 1 := hasSize_mk (by kernel_rfl)
instance : IsZero Tryz.prog 255 [.nilFunc] := isZero_mk (b := 8) (by kernel_rfl) rfl
instance : IsElem Tryz.prog 255 [.nilFunc] 8 := isElem_mk (by kernel_rfl) rfl (by simp)
instance : IsScalar Tryz.prog 256 := isScalar_mk (by kernel_rfl)
instance : HasSize Tryz.prog 256 1 := hasSize_mk (by kernel_rfl)
instance : IsZero Tryz.prog 256 [.nilFunc] := isZero_mk (b := 8) (by kernel_rfl) rfl
instance : IsElem Tryz.prog 256 [.nilFunc] 8 := isElem_mk (by kernel_rfl) rfl (by simp)
instance : IsScalar Tryz.prog 264 := isScalar_mk (by kernel_rfl)
instance : HasSize Tryz.prog 264 1 := hasSize_mk (by kernel_rfl)
instance : IsZero Tryz.prog 264 [.nilFunc] := isZero_mk (b := 8) (by kernel_rfl) rfl
instance : IsElem Tryz.prog 264 [.nilFunc] 8 := isElem_mk (by kernel_rfl) rfl (by simp)
instance : IsScalar Tryz.prog 265 := isScalar_mk (by kernel_rfl)
instance : HasSize Tryz.prog 265 1 := hasSize_mk (by kernel_rfl)
instance : IsZero Tryz.prog 265 [.pointer none] := isZero_mk (b := 8) (by kernel_rfl) rfl
instance : IsElem Tryz.prog 265 [.pointer none] 8 := isElem_mk (by kernel_rfl) rfl (by simp)
end Go.Proofs
