/- The facts on the types of this translation, each by the kernel. Written by gentypes.py. -/
import Derived.Test.YtijnlobgmfmhjaaGreatDoorSvv
import Derived.Test.YtijnlobgmfmhjaaGreatDoorProg
import Derived.KernelRfl
namespace Go.Proofs
open Go Go.Sv
instance : Mixed Tryz.prog := ⟨by kernel_rfl⟩
instance : IsScalar Tryz.prog 1 := isScalar_mk (by kernel_rfl)
instance : HasSize Tryz.prog 1 1 := hasSize_mk (by kernel_rfl)
instance : IsZero Tryz.prog 1 [.nilFunc] := isZero_mk (b := 8) (by kernel_rfl) rfl
instance : IsElem Tryz.prog 1 [.nilFunc] 8 := isElem_mk (by kernel_rfl) rfl (by simp)

instance : IsScalar Tryz.prog 2 := isScalar_mk (by kernel_rfl)
instance : IsInt Tryz.prog 2 .i64 := ⟨by kernel_rfl⟩
instance : HasTy Tryz.prog 2 := ⟨by kernel_rfl⟩
instance : HasSize Tryz.prog 2 1 := hasSize_mk (by kernel_rfl)
instance : IsZero Tryz.prog 2 [.int .i64 0] := isZero_mk (b := 8) (by kernel_rfl) rfl
instance : IsElem Tryz.prog 2 [.int .i64 0] 8 := isElem_mk (by kernel_rfl) rfl (by simp)

instance : IsScalar Tryz.prog 3 := isScalar_mk (by kernel_rfl)
instance : IsInt Tryz.prog 3 .i64 := ⟨by kernel_rfl⟩
instance : HasTy Tryz.prog 3 := ⟨by kernel_rfl⟩
instance : HasSize Tryz.prog 3 1 := hasSize_mk (by kernel_rfl)
instance : IsZero Tryz.prog 3 [.int .i64 0] := isZero_mk (b := 8) (by kernel_rfl) rfl
instance : IsElem Tryz.prog 3 [.int .i64 0] 8 := isElem_mk (by kernel_rfl) rfl (by simp)

instance : IsScalar Tryz.prog 4 := isScalar_mk (by kernel_rfl)
theorem Tryz.isBool4 : Tryz.prog.underlying 4 = some .bool := by kernel_rfl
instance : HasSize Tryz.prog 4 1 := hasSize_mk (by kernel_rfl)
instance : IsZero Tryz.prog 4 [.bool false] := isZero_mk (b := 1) (by kernel_rfl) rfl
instance : IsElem Tryz.prog 4 [.bool false] 1 := isElem_mk (by kernel_rfl) rfl (by simp)

instance : IsScalar Tryz.prog 5 := isScalar_mk (by kernel_rfl)
instance : IsInt Tryz.prog 5 .u8 := ⟨by kernel_rfl⟩
instance : HasTy Tryz.prog 5 := ⟨by kernel_rfl⟩
instance : HasSize Tryz.prog 5 1 := hasSize_mk (by kernel_rfl)
instance : IsZero Tryz.prog 5 [.int .u8 0] := isZero_mk (b := 1) (by kernel_rfl) rfl
instance : IsElem Tryz.prog 5 [.int .u8 0] 1 := isElem_mk (by kernel_rfl) rfl (by simp)

instance : IsScalar Tryz.prog 9 := isScalar_mk (by kernel_rfl)
instance : IsStr Tryz.prog 9 := ⟨by kernel_rfl⟩
instance : HasSize Tryz.prog 9 1 := hasSize_mk (by kernel_rfl)
instance : IsZero Tryz.prog 9 [.string ⟨#[]⟩] := isZero_mk (b := 16) (by kernel_rfl) rfl
instance : IsElem Tryz.prog 9 [.string ⟨#[]⟩] 16 := isElem_mk (by kernel_rfl) rfl (by simp)

instance : IsScalar Tryz.prog 12 := isScalar_mk (by kernel_rfl)
instance : IsInt Tryz.prog 12 .u64 := ⟨by kernel_rfl⟩
instance : HasTy Tryz.prog 12 := ⟨by kernel_rfl⟩
instance : HasSize Tryz.prog 12 1 := hasSize_mk (by kernel_rfl)
instance : IsZero Tryz.prog 12 [.int .u64 0] := isZero_mk (b := 8) (by kernel_rfl) rfl
instance : IsElem Tryz.prog 12 [.int .u64 0] 8 := isElem_mk (by kernel_rfl) rfl (by simp)

instance : IsAgg Tryz.prog 13 2 := isAgg_mk (by kernel_rfl)
instance : IsBuild Tryz.prog 13 [.string ⟨#[]⟩, .int .u64 0] [(0, 1), (1, 1)] := ⟨by kernel_rfl, rfl⟩
instance : IsField Tryz.prog 13 0 0 := isField_mk (by kernel_rfl)
instance : IsField Tryz.prog 13 1 1 := isField_mk (by kernel_rfl)
instance : HasSize Tryz.prog 13 2 := hasSize_mk (by kernel_rfl)
instance : IsZero Tryz.prog 13 [.string ⟨#[]⟩, .int .u64 0] := isZero_mk (b := 24) (by kernel_rfl) rfl
instance : IsElem Tryz.prog 13 [.string ⟨#[]⟩, .int .u64 0] 24 := isElem_mk (by kernel_rfl) rfl (by simp)

instance : IsScalar Tryz.prog 21 := isScalar_mk (by kernel_rfl)
instance : IsInt Tryz.prog 21 .i32 := ⟨by kernel_rfl⟩
instance : HasTy Tryz.prog 21 := ⟨by kernel_rfl⟩
instance : HasSize Tryz.prog 21 1 := hasSize_mk (by kernel_rfl)
instance : IsZero Tryz.prog 21 [.int .i32 0] := isZero_mk (b := 4) (by kernel_rfl) rfl
instance : IsElem Tryz.prog 21 [.int .i32 0] 4 := isElem_mk (by kernel_rfl) rfl (by simp)

instance : IsScalar Tryz.prog 22 := isScalar_mk (by kernel_rfl)
instance : IsSl Tryz.prog 22 65 1 := isSl_mk (by kernel_rfl) (by kernel_rfl)
instance : HasSize Tryz.prog 22 1 := hasSize_mk (by kernel_rfl)
instance : IsZero Tryz.prog 22 [.slice none 0 0] := isZero_mk (b := 24) (by kernel_rfl) rfl
instance : IsElem Tryz.prog 22 [.slice none 0 0] 24 := isElem_mk (by kernel_rfl) rfl (by simp)

instance : IsScalar Tryz.prog 23 := isScalar_mk (by kernel_rfl)
instance : IsSl Tryz.prog 23 65 1 := isSl_mk (by kernel_rfl) (by kernel_rfl)
instance : HasSize Tryz.prog 23 1 := hasSize_mk (by kernel_rfl)
instance : IsZero Tryz.prog 23 [.slice none 0 0] := isZero_mk (b := 24) (by kernel_rfl) rfl
instance : IsElem Tryz.prog 23 [.slice none 0 0] 24 := isElem_mk (by kernel_rfl) rfl (by simp)

instance : IsAgg Tryz.prog 24 2 := isAgg_mk (by kernel_rfl)
instance : IsBuild Tryz.prog 24 [.bool false, .slice none 0 0] [(0, 1), (1, 1)] := ⟨by kernel_rfl, rfl⟩
instance : IsField Tryz.prog 24 0 0 := isField_mk (by kernel_rfl)
instance : IsField Tryz.prog 24 1 1 := isField_mk (by kernel_rfl)
instance : HasSize Tryz.prog 24 2 := hasSize_mk (by kernel_rfl)
instance : IsZero Tryz.prog 24 [.bool false, .slice none 0 0] := isZero_mk (b := 32) (by kernel_rfl) rfl
instance : IsElem Tryz.prog 24 [.bool false, .slice none 0 0] 32 := isElem_mk (by kernel_rfl) rfl (by simp)

instance : IsAgg Tryz.prog 25 2 := isAgg_mk (by kernel_rfl)
instance : IsBuild Tryz.prog 25 [.bool false, .slice none 0 0] [(0, 1), (1, 1)] := ⟨by kernel_rfl, rfl⟩
instance : IsField Tryz.prog 25 0 0 := isField_mk (by kernel_rfl)
instance : IsField Tryz.prog 25 1 1 := isField_mk (by kernel_rfl)
instance : HasSize Tryz.prog 25 2 := hasSize_mk (by kernel_rfl)
instance : IsZero Tryz.prog 25 [.bool false, .slice none 0 0] := isZero_mk (b := 32) (by kernel_rfl) rfl
instance : IsElem Tryz.prog 25 [.bool false, .slice none 0 0] 32 := isElem_mk (by kernel_rfl) rfl (by simp)

instance : IsAgg Tryz.prog 26 3 := isAgg_mk (by kernel_rfl)
instance : IsBuild Tryz.prog 26 [.bool false, .slice none 0 0, .slice none 0 0] [(0, 2), (2, 1)] := ⟨by kernel_rfl, rfl⟩
instance : IsField Tryz.prog 26 0 0 := isField_mk (by kernel_rfl)
instance : IsField Tryz.prog 26 1 2 := isField_mk (by kernel_rfl)
instance : HasSize Tryz.prog 26 3 := hasSize_mk (by kernel_rfl)
instance : IsZero Tryz.prog 26 [.bool false, .slice none 0 0, .slice none 0 0] := isZero_mk (b := 56) (by kernel_rfl) rfl
instance : IsElem Tryz.prog 26 [.bool false, .slice none 0 0, .slice none 0 0] 56 := isElem_mk (by kernel_rfl) rfl (by simp)

instance : IsAgg Tryz.prog 27 3 := isAgg_mk (by kernel_rfl)
instance : IsBuild Tryz.prog 27 [.bool false, .slice none 0 0, .slice none 0 0] [(0, 2), (2, 1)] := ⟨by kernel_rfl, rfl⟩
instance : IsField Tryz.prog 27 0 0 := isField_mk (by kernel_rfl)
instance : IsField Tryz.prog 27 1 2 := isField_mk (by kernel_rfl)
instance : HasSize Tryz.prog 27 3 := hasSize_mk (by kernel_rfl)
instance : IsZero Tryz.prog 27 [.bool false, .slice none 0 0, .slice none 0 0] := isZero_mk (b := 56) (by kernel_rfl) rfl
instance : IsElem Tryz.prog 27 [.bool false, .slice none 0 0, .slice none 0 0] 56 := isElem_mk (by kernel_rfl) rfl (by simp)

instance : IsAgg Tryz.prog 28 6 := isAgg_mk (by kernel_rfl)
instance : IsBuild Tryz.prog 28 [.bool false, .slice none 0 0, .slice none 0 0, .bool false, .slice none 0 0, .slice none 0 0] [(0, 3), (3, 3)] := ⟨by kernel_rfl, rfl⟩
instance : IsField Tryz.prog 28 0 0 := isField_mk (by kernel_rfl)
instance : IsField Tryz.prog 28 1 3 := isField_mk (by kernel_rfl)
instance : HasSize Tryz.prog 28 6 := hasSize_mk (by kernel_rfl)
instance : IsZero Tryz.prog 28 [.bool false, .slice none 0 0, .slice none 0 0, .bool false, .slice none 0 0, .slice none 0 0] := isZero_mk (b := 112) (by kernel_rfl) rfl
instance : IsElem Tryz.prog 28 [.bool false, .slice none 0 0, .slice none 0 0, .bool false, .slice none 0 0, .slice none 0 0] 112 := isElem_mk (by kernel_rfl) rfl (by simp)

instance : IsAgg Tryz.prog 29 6 := isAgg_mk (by kernel_rfl)
instance : IsBuild Tryz.prog 29 [.bool false, .slice none 0 0, .slice none 0 0, .bool false, .slice none 0 0, .slice none 0 0] [(0, 3), (3, 3)] := ⟨by kernel_rfl, rfl⟩
instance : IsField Tryz.prog 29 0 0 := isField_mk (by kernel_rfl)
instance : IsField Tryz.prog 29 1 3 := isField_mk (by kernel_rfl)
instance : HasSize Tryz.prog 29 6 := hasSize_mk (by kernel_rfl)
instance : IsZero Tryz.prog 29 [.bool false, .slice none 0 0, .slice none 0 0, .bool false, .slice none 0 0, .slice none 0 0] := isZero_mk (b := 112) (by kernel_rfl) rfl
instance : IsElem Tryz.prog 29 [.bool false, .slice none 0 0, .slice none 0 0, .bool false, .slice none 0 0, .slice none 0 0] 112 := isElem_mk (by kernel_rfl) rfl (by simp)

instance : IsScalar Tryz.prog 30 := isScalar_mk (by kernel_rfl)
instance : HasSize Tryz.prog 30 1 := hasSize_mk (by kernel_rfl)
instance : IsZero Tryz.prog 30 [.nilFunc] := isZero_mk (b := 8) (by kernel_rfl) rfl
instance : IsElem Tryz.prog 30 [.nilFunc] 8 := isElem_mk (by kernel_rfl) rfl (by simp)

instance : IsScalar Tryz.prog 31 := isScalar_mk (by kernel_rfl)
instance : HasSize Tryz.prog 31 1 := hasSize_mk (by kernel_rfl)
instance : IsZero Tryz.prog 31 [.nilFunc] := isZero_mk (b := 8) (by kernel_rfl) rfl
instance : IsElem Tryz.prog 31 [.nilFunc] 8 := isElem_mk (by kernel_rfl) rfl (by simp)

instance : IsScalar Tryz.prog 32 := isScalar_mk (by kernel_rfl)
instance : HasSize Tryz.prog 32 1 := hasSize_mk (by kernel_rfl)
instance : IsZero Tryz.prog 32 [.nilFunc] := isZero_mk (b := 8) (by kernel_rfl) rfl
instance : IsElem Tryz.prog 32 [.nilFunc] 8 := isElem_mk (by kernel_rfl) rfl (by simp)

instance : IsScalar Tryz.prog 33 := isScalar_mk (by kernel_rfl)
instance : HasSize Tryz.prog 33 1 := hasSize_mk (by kernel_rfl)
instance : IsZero Tryz.prog 33 [.nilFunc] := isZero_mk (b := 8) (by kernel_rfl) rfl
instance : IsElem Tryz.prog 33 [.nilFunc] 8 := isElem_mk (by kernel_rfl) rfl (by simp)

instance : IsScalar Tryz.prog 34 := isScalar_mk (by kernel_rfl)
instance : HasSize Tryz.prog 34 1 := hasSize_mk (by kernel_rfl)
instance : IsZero Tryz.prog 34 [.nilFunc] := isZero_mk (b := 8) (by kernel_rfl) rfl
instance : IsElem Tryz.prog 34 [.nilFunc] 8 := isElem_mk (by kernel_rfl) rfl (by simp)

instance : IsScalar Tryz.prog 35 := isScalar_mk (by kernel_rfl)
instance : HasSize Tryz.prog 35 1 := hasSize_mk (by kernel_rfl)
instance : IsZero Tryz.prog 35 [.nilFunc] := isZero_mk (b := 8) (by kernel_rfl) rfl
instance : IsElem Tryz.prog 35 [.nilFunc] 8 := isElem_mk (by kernel_rfl) rfl (by simp)

instance : IsScalar Tryz.prog 36 := isScalar_mk (by kernel_rfl)
instance : HasSize Tryz.prog 36 1 := hasSize_mk (by kernel_rfl)
instance : IsZero Tryz.prog 36 [.nilFunc] := isZero_mk (b := 8) (by kernel_rfl) rfl
instance : IsElem Tryz.prog 36 [.nilFunc] 8 := isElem_mk (by kernel_rfl) rfl (by simp)

instance : IsScalar Tryz.prog 37 := isScalar_mk (by kernel_rfl)
instance : HasSize Tryz.prog 37 1 := hasSize_mk (by kernel_rfl)
instance : IsZero Tryz.prog 37 [.nilFunc] := isZero_mk (b := 8) (by kernel_rfl) rfl
instance : IsElem Tryz.prog 37 [.nilFunc] 8 := isElem_mk (by kernel_rfl) rfl (by simp)

instance : IsScalar Tryz.prog 38 := isScalar_mk (by kernel_rfl)
instance : HasSize Tryz.prog 38 1 := hasSize_mk (by kernel_rfl)
instance : IsZero Tryz.prog 38 [.nilFunc] := isZero_mk (b := 8) (by kernel_rfl) rfl
instance : IsElem Tryz.prog 38 [.nilFunc] 8 := isElem_mk (by kernel_rfl) rfl (by simp)

instance : IsScalar Tryz.prog 39 := isScalar_mk (by kernel_rfl)
instance : HasSize Tryz.prog 39 1 := hasSize_mk (by kernel_rfl)
instance : IsZero Tryz.prog 39 [.nilFunc] := isZero_mk (b := 8) (by kernel_rfl) rfl
instance : IsElem Tryz.prog 39 [.nilFunc] 8 := isElem_mk (by kernel_rfl) rfl (by simp)

instance : IsScalar Tryz.prog 40 := isScalar_mk (by kernel_rfl)
instance : HasSize Tryz.prog 40 1 := hasSize_mk (by kernel_rfl)
instance : IsZero Tryz.prog 40 [.nilFunc] := isZero_mk (b := 8) (by kernel_rfl) rfl
instance : IsElem Tryz.prog 40 [.nilFunc] 8 := isElem_mk (by kernel_rfl) rfl (by simp)

instance : IsScalar Tryz.prog 41 := isScalar_mk (by kernel_rfl)
instance : HasSize Tryz.prog 41 1 := hasSize_mk (by kernel_rfl)
instance : IsZero Tryz.prog 41 [.nilFunc] := isZero_mk (b := 8) (by kernel_rfl) rfl
instance : IsElem Tryz.prog 41 [.nilFunc] 8 := isElem_mk (by kernel_rfl) rfl (by simp)

instance : IsScalar Tryz.prog 42 := isScalar_mk (by kernel_rfl)
instance : HasSize Tryz.prog 42 1 := hasSize_mk (by kernel_rfl)
instance : IsZero Tryz.prog 42 [.nilFunc] := isZero_mk (b := 8) (by kernel_rfl) rfl
instance : IsElem Tryz.prog 42 [.nilFunc] 8 := isElem_mk (by kernel_rfl) rfl (by simp)

instance : IsScalar Tryz.prog 43 := isScalar_mk (by kernel_rfl)
instance : HasSize Tryz.prog 43 1 := hasSize_mk (by kernel_rfl)
instance : IsZero Tryz.prog 43 [.nilFunc] := isZero_mk (b := 8) (by kernel_rfl) rfl
instance : IsElem Tryz.prog 43 [.nilFunc] 8 := isElem_mk (by kernel_rfl) rfl (by simp)

instance : IsScalar Tryz.prog 44 := isScalar_mk (by kernel_rfl)
instance : HasSize Tryz.prog 44 1 := hasSize_mk (by kernel_rfl)
instance : IsZero Tryz.prog 44 [.nilFunc] := isZero_mk (b := 8) (by kernel_rfl) rfl
instance : IsElem Tryz.prog 44 [.nilFunc] 8 := isElem_mk (by kernel_rfl) rfl (by simp)

instance : IsScalar Tryz.prog 45 := isScalar_mk (by kernel_rfl)
instance : HasSize Tryz.prog 45 1 := hasSize_mk (by kernel_rfl)
instance : IsZero Tryz.prog 45 [.nilFunc] := isZero_mk (b := 8) (by kernel_rfl) rfl
instance : IsElem Tryz.prog 45 [.nilFunc] 8 := isElem_mk (by kernel_rfl) rfl (by simp)

instance : IsScalar Tryz.prog 46 := isScalar_mk (by kernel_rfl)
instance : IsSl Tryz.prog 46 27 3 := isSl_mk (by kernel_rfl) (by kernel_rfl)
instance : HasSize Tryz.prog 46 1 := hasSize_mk (by kernel_rfl)
instance : IsZero Tryz.prog 46 [.slice none 0 0] := isZero_mk (b := 24) (by kernel_rfl) rfl
instance : IsElem Tryz.prog 46 [.slice none 0 0] 24 := isElem_mk (by kernel_rfl) rfl (by simp)

instance : IsScalar Tryz.prog 47 := isScalar_mk (by kernel_rfl)
instance : IsSl Tryz.prog 47 29 6 := isSl_mk (by kernel_rfl) (by kernel_rfl)
instance : HasSize Tryz.prog 47 1 := hasSize_mk (by kernel_rfl)
instance : IsZero Tryz.prog 47 [.slice none 0 0] := isZero_mk (b := 24) (by kernel_rfl) rfl
instance : IsElem Tryz.prog 47 [.slice none 0 0] 24 := isElem_mk (by kernel_rfl) rfl (by simp)

instance : IsScalar Tryz.prog 48 := isScalar_mk (by kernel_rfl)
instance : HasSize Tryz.prog 48 1 := hasSize_mk (by kernel_rfl)
instance : IsZero Tryz.prog 48 [.nilFunc] := isZero_mk (b := 8) (by kernel_rfl) rfl
instance : IsElem Tryz.prog 48 [.nilFunc] 8 := isElem_mk (by kernel_rfl) rfl (by simp)

instance : IsScalar Tryz.prog 49 := isScalar_mk (by kernel_rfl)
instance : HasSize Tryz.prog 49 1 := hasSize_mk (by kernel_rfl)
instance : IsZero Tryz.prog 49 [.nilFunc] := isZero_mk (b := 8) (by kernel_rfl) rfl
instance : IsElem Tryz.prog 49 [.nilFunc] 8 := isElem_mk (by kernel_rfl) rfl (by simp)

instance : IsScalar Tryz.prog 50 := isScalar_mk (by kernel_rfl)
instance : IsSl Tryz.prog 50 3 1 := isSl_mk (by kernel_rfl) (by kernel_rfl)
instance : HasSize Tryz.prog 50 1 := hasSize_mk (by kernel_rfl)
instance : IsZero Tryz.prog 50 [.slice none 0 0] := isZero_mk (b := 24) (by kernel_rfl) rfl
instance : IsElem Tryz.prog 50 [.slice none 0 0] 24 := isElem_mk (by kernel_rfl) rfl (by simp)

instance : IsScalar Tryz.prog 51 := isScalar_mk (by kernel_rfl)
instance : HasSize Tryz.prog 51 1 := hasSize_mk (by kernel_rfl)
instance : IsZero Tryz.prog 51 [.nilFunc] := isZero_mk (b := 8) (by kernel_rfl) rfl
instance : IsElem Tryz.prog 51 [.nilFunc] 8 := isElem_mk (by kernel_rfl) rfl (by simp)

instance : IsAgg Tryz.prog 52 18 := isAgg_mk (by kernel_rfl)
instance : IsBuild Tryz.prog 52 [.bool false, .slice none 0 0, .slice none 0 0, .bool false, .slice none 0 0, .slice none 0 0, .bool false, .slice none 0 0, .slice none 0 0, .bool false, .slice none 0 0, .slice none 0 0, .bool false, .slice none 0 0, .slice none 0 0, .bool false, .slice none 0 0, .slice none 0 0] [(0, 6), (6, 6), (12, 6)] := ⟨by kernel_rfl, rfl⟩
instance : IsField Tryz.prog 52 0 0 := isField_mk (by kernel_rfl)
instance : IsField Tryz.prog 52 1 6 := isField_mk (by kernel_rfl)
instance : IsField Tryz.prog 52 2 12 := isField_mk (by kernel_rfl)
instance : HasSize Tryz.prog 52 18 := hasSize_mk (by kernel_rfl)
instance : IsZero Tryz.prog 52 [.bool false, .slice none 0 0, .slice none 0 0, .bool false, .slice none 0 0, .slice none 0 0, .bool false, .slice none 0 0, .slice none 0 0, .bool false, .slice none 0 0, .slice none 0 0, .bool false, .slice none 0 0, .slice none 0 0, .bool false, .slice none 0 0, .slice none 0 0] := isZero_mk (b := 336) (by kernel_rfl) rfl
instance : IsElem Tryz.prog 52 [.bool false, .slice none 0 0, .slice none 0 0, .bool false, .slice none 0 0, .slice none 0 0, .bool false, .slice none 0 0, .slice none 0 0, .bool false, .slice none 0 0, .slice none 0 0, .bool false, .slice none 0 0, .slice none 0 0, .bool false, .slice none 0 0, .slice none 0 0] 336 := isElem_mk (by kernel_rfl) rfl (by simp)

instance : IsAgg Tryz.prog 53 18 := isAgg_mk (by kernel_rfl)
instance : IsBuild Tryz.prog 53 [.bool false, .slice none 0 0, .slice none 0 0, .bool false, .slice none 0 0, .slice none 0 0, .bool false, .slice none 0 0, .slice none 0 0, .bool false, .slice none 0 0, .slice none 0 0, .bool false, .slice none 0 0, .slice none 0 0, .bool false, .slice none 0 0, .slice none 0 0] [(0, 6), (6, 6), (12, 6)] := ⟨by kernel_rfl, rfl⟩
instance : IsField Tryz.prog 53 0 0 := isField_mk (by kernel_rfl)
instance : IsField Tryz.prog 53 1 6 := isField_mk (by kernel_rfl)
instance : IsField Tryz.prog 53 2 12 := isField_mk (by kernel_rfl)
instance : HasSize Tryz.prog 53 18 := hasSize_mk (by kernel_rfl)
instance : IsZero Tryz.prog 53 [.bool false, .slice none 0 0, .slice none 0 0, .bool false, .slice none 0 0, .slice none 0 0, .bool false, .slice none 0 0, .slice none 0 0, .bool false, .slice none 0 0, .slice none 0 0, .bool false, .slice none 0 0, .slice none 0 0, .bool false, .slice none 0 0, .slice none 0 0] := isZero_mk (b := 336) (by kernel_rfl) rfl
instance : IsElem Tryz.prog 53 [.bool false, .slice none 0 0, .slice none 0 0, .bool false, .slice none 0 0, .slice none 0 0, .bool false, .slice none 0 0, .slice none 0 0, .bool false, .slice none 0 0, .slice none 0 0, .bool false, .slice none 0 0, .slice none 0 0, .bool false, .slice none 0 0, .slice none 0 0] 336 := isElem_mk (by kernel_rfl) rfl (by simp)

instance : IsScalar Tryz.prog 54 := isScalar_mk (by kernel_rfl)
instance : HasSize Tryz.prog 54 1 := hasSize_mk (by kernel_rfl)
instance : IsZero Tryz.prog 54 [.nilFunc] := isZero_mk (b := 8) (by kernel_rfl) rfl
instance : IsElem Tryz.prog 54 [.nilFunc] 8 := isElem_mk (by kernel_rfl) rfl (by simp)

instance : IsScalar Tryz.prog 55 := isScalar_mk (by kernel_rfl)
instance : HasSize Tryz.prog 55 1 := hasSize_mk (by kernel_rfl)
instance : IsZero Tryz.prog 55 [.nilFunc] := isZero_mk (b := 8) (by kernel_rfl) rfl
instance : IsElem Tryz.prog 55 [.nilFunc] 8 := isElem_mk (by kernel_rfl) rfl (by simp)

instance : IsScalar Tryz.prog 56 := isScalar_mk (by kernel_rfl)
instance : HasSize Tryz.prog 56 1 := hasSize_mk (by kernel_rfl)
instance : IsZero Tryz.prog 56 [.nilFunc] := isZero_mk (b := 8) (by kernel_rfl) rfl
instance : IsElem Tryz.prog 56 [.nilFunc] 8 := isElem_mk (by kernel_rfl) rfl (by simp)

instance : IsScalar Tryz.prog 57 := isScalar_mk (by kernel_rfl)
instance : HasSize Tryz.prog 57 1 := hasSize_mk (by kernel_rfl)
instance : IsZero Tryz.prog 57 [.nilFunc] := isZero_mk (b := 8) (by kernel_rfl) rfl
instance : IsElem Tryz.prog 57 [.nilFunc] 8 := isElem_mk (by kernel_rfl) rfl (by simp)

instance : IsScalar Tryz.prog 58 := isScalar_mk (by kernel_rfl)
instance : HasSize Tryz.prog 58 1 := hasSize_mk (by kernel_rfl)
instance : IsZero Tryz.prog 58 [.nilFunc] := isZero_mk (b := 8) (by kernel_rfl) rfl
instance : IsElem Tryz.prog 58 [.nilFunc] 8 := isElem_mk (by kernel_rfl) rfl (by simp)

instance : IsScalar Tryz.prog 59 := isScalar_mk (by kernel_rfl)
instance : HasSize Tryz.prog 59 1 := hasSize_mk (by kernel_rfl)
instance : IsZero Tryz.prog 59 [.nilFunc] := isZero_mk (b := 8) (by kernel_rfl) rfl
instance : IsElem Tryz.prog 59 [.nilFunc] 8 := isElem_mk (by kernel_rfl) rfl (by simp)

instance : IsScalar Tryz.prog 60 := isScalar_mk (by kernel_rfl)
instance : HasSize Tryz.prog 60 1 := hasSize_mk (by kernel_rfl)
instance : IsZero Tryz.prog 60 [.nilFunc] := isZero_mk (b := 8) (by kernel_rfl) rfl
instance : IsElem Tryz.prog 60 [.nilFunc] 8 := isElem_mk (by kernel_rfl) rfl (by simp)

instance : IsScalar Tryz.prog 61 := isScalar_mk (by kernel_rfl)
instance : HasSize Tryz.prog 61 1 := hasSize_mk (by kernel_rfl)
instance : IsZero Tryz.prog 61 [.nilFunc] := isZero_mk (b := 8) (by kernel_rfl) rfl
instance : IsElem Tryz.prog 61 [.nilFunc] 8 := isElem_mk (by kernel_rfl) rfl (by simp)

instance : IsScalar Tryz.prog 62 := isScalar_mk (by kernel_rfl)
instance : HasSize Tryz.prog 62 1 := hasSize_mk (by kernel_rfl)
instance : IsZero Tryz.prog 62 [.nilFunc] := isZero_mk (b := 8) (by kernel_rfl) rfl
instance : IsElem Tryz.prog 62 [.nilFunc] 8 := isElem_mk (by kernel_rfl) rfl (by simp)

instance : IsScalar Tryz.prog 63 := isScalar_mk (by kernel_rfl)
instance : HasSize Tryz.prog 63 1 := hasSize_mk (by kernel_rfl)
instance : IsZero Tryz.prog 63 [.nilFunc] := isZero_mk (b := 8) (by kernel_rfl) rfl
instance : IsElem Tryz.prog 63 [.nilFunc] 8 := isElem_mk (by kernel_rfl) rfl (by simp)

instance : IsScalar Tryz.prog 64 := isScalar_mk (by kernel_rfl)
instance : HasSize Tryz.prog 64 1 := hasSize_mk (by kernel_rfl)
instance : IsZero Tryz.prog 64 [.nilFunc] := isZero_mk (b := 8) (by kernel_rfl) rfl
instance : IsElem Tryz.prog 64 [.nilFunc] 8 := isElem_mk (by kernel_rfl) rfl (by simp)

instance : IsScalar Tryz.prog 65 := isScalar_mk (by kernel_rfl)
instance : IsInt Tryz.prog 65 .u32 := ⟨by kernel_rfl⟩
instance : HasTy Tryz.prog 65 := ⟨by kernel_rfl⟩
instance : HasSize Tryz.prog 65 1 := hasSize_mk (by kernel_rfl)
instance : IsZero Tryz.prog 65 [.int .u32 0] := isZero_mk (b := 4) (by kernel_rfl) rfl
instance : IsElem Tryz.prog 65 [.int .u32 0] 4 := isElem_mk (by kernel_rfl) rfl (by simp)

instance : IsScalar Tryz.prog 66 := isScalar_mk (by kernel_rfl)
instance : HasSize Tryz.prog 66 1 := hasSize_mk (by kernel_rfl)
instance : IsZero Tryz.prog 66 [.nilFunc] := isZero_mk (b := 8) (by kernel_rfl) rfl
instance : IsElem Tryz.prog 66 [.nilFunc] 8 := isElem_mk (by kernel_rfl) rfl (by simp)

instance : IsScalar Tryz.prog 67 := isScalar_mk (by kernel_rfl)
instance : HasSize Tryz.prog 67 1 := hasSize_mk (by kernel_rfl)
instance : IsZero Tryz.prog 67 [.nilFunc] := isZero_mk (b := 8) (by kernel_rfl) rfl
instance : IsElem Tryz.prog 67 [.nilFunc] 8 := isElem_mk (by kernel_rfl) rfl (by simp)

instance : IsScalar Tryz.prog 68 := isScalar_mk (by kernel_rfl)
instance : HasSize Tryz.prog 68 1 := hasSize_mk (by kernel_rfl)
instance : IsZero Tryz.prog 68 [.nilFunc] := isZero_mk (b := 8) (by kernel_rfl) rfl
instance : IsElem Tryz.prog 68 [.nilFunc] 8 := isElem_mk (by kernel_rfl) rfl (by simp)

instance : IsScalar Tryz.prog 69 := isScalar_mk (by kernel_rfl)
instance : HasSize Tryz.prog 69 1 := hasSize_mk (by kernel_rfl)
instance : IsZero Tryz.prog 69 [.nilFunc] := isZero_mk (b := 8) (by kernel_rfl) rfl
instance : IsElem Tryz.prog 69 [.nilFunc] 8 := isElem_mk (by kernel_rfl) rfl (by simp)

instance : IsScalar Tryz.prog 70 := isScalar_mk (by kernel_rfl)
instance : IsInt Tryz.prog 70 .i64 := ⟨by kernel_rfl⟩
instance : HasTy Tryz.prog 70 := ⟨by kernel_rfl⟩
instance : HasSize Tryz.prog 70 1 := hasSize_mk (by kernel_rfl)
instance : IsZero Tryz.prog 70 [.int .i64 0] := isZero_mk (b := 8) (by kernel_rfl) rfl
instance : IsElem Tryz.prog 70 [.int .i64 0] 8 := isElem_mk (by kernel_rfl) rfl (by simp)

instance : IsScalar Tryz.prog 72 := isScalar_mk (by kernel_rfl)
instance : HasSize Tryz.prog 72 1 := hasSize_mk (by kernel_rfl)
instance : IsZero Tryz.prog 72 [.nilFunc] := isZero_mk (b := 8) (by kernel_rfl) rfl
instance : IsElem Tryz.prog 72 [.nilFunc] 8 := isElem_mk (by kernel_rfl) rfl (by simp)

instance : IsScalar Tryz.prog 73 := isScalar_mk (by kernel_rfl)
instance : HasSize Tryz.prog 73 1 := hasSize_mk (by kernel_rfl)
instance : IsZero Tryz.prog 73 [.nilFunc] := isZero_mk (b := 8) (by kernel_rfl) rfl
instance : IsElem Tryz.prog 73 [.nilFunc] 8 := isElem_mk (by kernel_rfl) rfl (by simp)

instance : IsScalar Tryz.prog 74 := isScalar_mk (by kernel_rfl)
instance : HasSize Tryz.prog 74 1 := hasSize_mk (by kernel_rfl)
instance : IsZero Tryz.prog 74 [.nilFunc] := isZero_mk (b := 8) (by kernel_rfl) rfl
instance : IsElem Tryz.prog 74 [.nilFunc] 8 := isElem_mk (by kernel_rfl) rfl (by simp)

instance : IsScalar Tryz.prog 75 := isScalar_mk (by kernel_rfl)
instance : IsSl Tryz.prog 75 25 2 := isSl_mk (by kernel_rfl) (by kernel_rfl)
instance : HasSize Tryz.prog 75 1 := hasSize_mk (by kernel_rfl)
instance : IsZero Tryz.prog 75 [.slice none 0 0] := isZero_mk (b := 24) (by kernel_rfl) rfl
instance : IsElem Tryz.prog 75 [.slice none 0 0] 24 := isElem_mk (by kernel_rfl) rfl (by simp)

instance : IsScalar Tryz.prog 76 := isScalar_mk (by kernel_rfl)
instance : HasSize Tryz.prog 76 1 := hasSize_mk (by kernel_rfl)
instance : IsZero Tryz.prog 76 [.nilFunc] := isZero_mk (b := 8) (by kernel_rfl) rfl
instance : IsElem Tryz.prog 76 [.nilFunc] 8 := isElem_mk (by kernel_rfl) rfl (by simp)

instance : IsScalar Tryz.prog 77 := isScalar_mk (by kernel_rfl)
instance : IsInt Tryz.prog 77 .u64 := ⟨by kernel_rfl⟩
instance : HasTy Tryz.prog 77 := ⟨by kernel_rfl⟩
instance : HasSize Tryz.prog 77 1 := hasSize_mk (by kernel_rfl)
instance : IsZero Tryz.prog 77 [.int .u64 0] := isZero_mk (b := 8) (by kernel_rfl) rfl
instance : IsElem Tryz.prog 77 [.int .u64 0] 8 := isElem_mk (by kernel_rfl) rfl (by simp)

instance : IsScalar Tryz.prog 78 := isScalar_mk (by kernel_rfl)
instance : HasSize Tryz.prog 78 1 := hasSize_mk (by kernel_rfl)
instance : IsZero Tryz.prog 78 [.nilFunc] := isZero_mk (b := 8) (by kernel_rfl) rfl
instance : IsElem Tryz.prog 78 [.nilFunc] 8 := isElem_mk (by kernel_rfl) rfl (by simp)

instance : IsAgg Tryz.prog 79 3 := isAgg_mk (by kernel_rfl)
instance : IsBuild Tryz.prog 79 [.bool false, .slice none 0 0, .slice none 0 0] [(0, 3)] := ⟨by kernel_rfl, rfl⟩
instance : IsField Tryz.prog 79 0 0 := isField_mk (by kernel_rfl)
instance : HasSize Tryz.prog 79 3 := hasSize_mk (by kernel_rfl)
instance : IsZero Tryz.prog 79 [.bool false, .slice none 0 0, .slice none 0 0] := isZero_mk (b := 56) (by kernel_rfl) rfl
instance : IsElem Tryz.prog 79 [.bool false, .slice none 0 0, .slice none 0 0] 56 := isElem_mk (by kernel_rfl) rfl (by simp)

instance : IsAgg Tryz.prog 80 3 := isAgg_mk (by kernel_rfl)
instance : IsBuild Tryz.prog 80 [.bool false, .slice none 0 0, .slice none 0 0] [(0, 3)] := ⟨by kernel_rfl, rfl⟩
instance : IsField Tryz.prog 80 0 0 := isField_mk (by kernel_rfl)
instance : HasSize Tryz.prog 80 3 := hasSize_mk (by kernel_rfl)
instance : IsZero Tryz.prog 80 [.bool false, .slice none 0 0, .slice none 0 0] := isZero_mk (b := 56) (by kernel_rfl) rfl
instance : IsElem Tryz.prog 80 [.bool false, .slice none 0 0, .slice none 0 0] 56 := isElem_mk (by kernel_rfl) rfl (by simp)

instance : IsScalar Tryz.prog 81 := isScalar_mk (by kernel_rfl)
instance : HasSize Tryz.prog 81 1 := hasSize_mk (by kernel_rfl)
instance : IsZero Tryz.prog 81 [.pointer none] := isZero_mk (b := 8) (by kernel_rfl) rfl
instance : IsElem Tryz.prog 81 [.pointer none] 8 := isElem_mk (by kernel_rfl) rfl (by simp)

instance : IsScalar Tryz.prog 82 := isScalar_mk (by kernel_rfl)
instance : HasSize Tryz.prog 82 1 := hasSize_mk (by kernel_rfl)
instance : IsZero Tryz.prog 82 [.nilFunc] := isZero_mk (b := 8) (by kernel_rfl) rfl
instance : IsElem Tryz.prog 82 [.nilFunc] 8 := isElem_mk (by kernel_rfl) rfl (by simp)

instance : IsScalar Tryz.prog 83 := isScalar_mk (by kernel_rfl)
instance : HasSize Tryz.prog 83 1 := hasSize_mk (by kernel_rfl)
instance : IsZero Tryz.prog 83 [.nilFunc] := isZero_mk (b := 8) (by kernel_rfl) rfl
instance : IsElem Tryz.prog 83 [.nilFunc] 8 := isElem_mk (by kernel_rfl) rfl (by simp)

instance : IsScalar Tryz.prog 84 := isScalar_mk (by kernel_rfl)
instance : HasSize Tryz.prog 84 1 := hasSize_mk (by kernel_rfl)
instance : IsZero Tryz.prog 84 [.nilFunc] := isZero_mk (b := 8) (by kernel_rfl) rfl
instance : IsElem Tryz.prog 84 [.nilFunc] 8 := isElem_mk (by kernel_rfl) rfl (by simp)

instance : IsScalar Tryz.prog 86 := isScalar_mk (by kernel_rfl)
instance : HasSize Tryz.prog 86 1 := hasSize_mk (by kernel_rfl)
instance : IsZero Tryz.prog 86 [.nilFunc] := isZero_mk (b := 8) (by kernel_rfl) rfl
instance : IsElem Tryz.prog 86 [.nilFunc] 8 := isElem_mk (by kernel_rfl) rfl (by simp)

instance : IsScalar Tryz.prog 87 := isScalar_mk (by kernel_rfl)
instance : HasSize Tryz.prog 87 1 := hasSize_mk (by kernel_rfl)
instance : IsZero Tryz.prog 87 [.nilFunc] := isZero_mk (b := 8) (by kernel_rfl) rfl
instance : IsElem Tryz.prog 87 [.nilFunc] 8 := isElem_mk (by kernel_rfl) rfl (by simp)

instance : IsScalar Tryz.prog 89 := isScalar_mk (by kernel_rfl)
instance : HasSize Tryz.prog 89 1 := hasSize_mk (by kernel_rfl)
instance : IsZero Tryz.prog 89 [.nilFunc] := isZero_mk (b := 8) (by kernel_rfl) rfl
instance : IsElem Tryz.prog 89 [.nilFunc] 8 := isElem_mk (by kernel_rfl) rfl (by simp)

instance : IsScalar Tryz.prog 90 := isScalar_mk (by kernel_rfl)
instance : IsInt Tryz.prog 90 .u64 := ⟨by kernel_rfl⟩
instance : HasTy Tryz.prog 90 := ⟨by kernel_rfl⟩
instance : HasSize Tryz.prog 90 1 := hasSize_mk (by kernel_rfl)
instance : IsZero Tryz.prog 90 [.int .u64 0] := isZero_mk (b := 8) (by kernel_rfl) rfl
instance : IsElem Tryz.prog 90 [.int .u64 0] 8 := isElem_mk (by kernel_rfl) rfl (by simp)

instance : IsScalar Tryz.prog 91 := isScalar_mk (by kernel_rfl)
instance : HasSize Tryz.prog 91 1 := hasSize_mk (by kernel_rfl)
instance : IsZero Tryz.prog 91 [.pointer none] := isZero_mk (b := 8) (by kernel_rfl) rfl
instance : IsElem Tryz.prog 91 [.pointer none] 8 := isElem_mk (by kernel_rfl) rfl (by simp)

instance : IsScalar Tryz.prog 92 := isScalar_mk (by kernel_rfl)
instance : HasSize Tryz.prog 92 1 := hasSize_mk (by kernel_rfl)
instance : IsZero Tryz.prog 92 [.nilFunc] := isZero_mk (b := 8) (by kernel_rfl) rfl
instance : IsElem Tryz.prog 92 [.nilFunc] 8 := isElem_mk (by kernel_rfl) rfl (by simp)

instance : IsScalar Tryz.prog 93 := isScalar_mk (by kernel_rfl)
instance : HasSize Tryz.prog 93 1 := hasSize_mk (by kernel_rfl)
instance : IsZero Tryz.prog 93 [.nilFunc] := isZero_mk (b := 8) (by kernel_rfl) rfl
instance : IsElem Tryz.prog 93 [.nilFunc] 8 := isElem_mk (by kernel_rfl) rfl (by simp)

instance : IsScalar Tryz.prog 94 := isScalar_mk (by kernel_rfl)
instance : HasSize Tryz.prog 94 1 := hasSize_mk (by kernel_rfl)
instance : IsZero Tryz.prog 94 [.nilFunc] := isZero_mk (b := 8) (by kernel_rfl) rfl
instance : IsElem Tryz.prog 94 [.nilFunc] 8 := isElem_mk (by kernel_rfl) rfl (by simp)

instance : IsScalar Tryz.prog 95 := isScalar_mk (by kernel_rfl)
instance : HasSize Tryz.prog 95 1 := hasSize_mk (by kernel_rfl)
instance : IsZero Tryz.prog 95 [.nilFunc] := isZero_mk (b := 8) (by kernel_rfl) rfl
instance : IsElem Tryz.prog 95 [.nilFunc] 8 := isElem_mk (by kernel_rfl) rfl (by simp)

instance : IsScalar Tryz.prog 96 := isScalar_mk (by kernel_rfl)
instance : HasSize Tryz.prog 96 1 := hasSize_mk (by kernel_rfl)
instance : IsZero Tryz.prog 96 [.nilFunc] := isZero_mk (b := 8) (by kernel_rfl) rfl
instance : IsElem Tryz.prog 96 [.nilFunc] 8 := isElem_mk (by kernel_rfl) rfl (by simp)

instance : IsScalar Tryz.prog 97 := isScalar_mk (by kernel_rfl)
instance : HasSize Tryz.prog 97 1 := hasSize_mk (by kernel_rfl)
instance : IsZero Tryz.prog 97 [.nilFunc] := isZero_mk (b := 8) (by kernel_rfl) rfl
instance : IsElem Tryz.prog 97 [.nilFunc] 8 := isElem_mk (by kernel_rfl) rfl (by simp)

instance : IsScalar Tryz.prog 98 := isScalar_mk (by kernel_rfl)
instance : HasSize Tryz.prog 98 1 := hasSize_mk (by kernel_rfl)
instance : IsZero Tryz.prog 98 [.nilFunc] := isZero_mk (b := 8) (by kernel_rfl) rfl
instance : IsElem Tryz.prog 98 [.nilFunc] 8 := isElem_mk (by kernel_rfl) rfl (by simp)

instance : IsScalar Tryz.prog 99 := isScalar_mk (by kernel_rfl)
instance : HasSize Tryz.prog 99 1 := hasSize_mk (by kernel_rfl)
instance : IsZero Tryz.prog 99 [.nilFunc] := isZero_mk (b := 8) (by kernel_rfl) rfl
instance : IsElem Tryz.prog 99 [.nilFunc] 8 := isElem_mk (by kernel_rfl) rfl (by simp)

instance : IsScalar Tryz.prog 100 := isScalar_mk (by kernel_rfl)
instance : HasSize Tryz.prog 100 1 := hasSize_mk (by kernel_rfl)
instance : IsZero Tryz.prog 100 [.nilFunc] := isZero_mk (b := 8) (by kernel_rfl) rfl
instance : IsElem Tryz.prog 100 [.nilFunc] 8 := isElem_mk (by kernel_rfl) rfl (by simp)

instance : IsAgg Tryz.prog 101 2 := isAgg_mk (by kernel_rfl)
instance : IsBuild Tryz.prog 101 [.bool false, .slice none 0 0] [(0, 2)] := ⟨by kernel_rfl, rfl⟩
instance : IsField Tryz.prog 101 0 0 := isField_mk (by kernel_rfl)
instance : HasSize Tryz.prog 101 2 := hasSize_mk (by kernel_rfl)
instance : IsZero Tryz.prog 101 [.bool false, .slice none 0 0] := isZero_mk (b := 32) (by kernel_rfl) rfl
instance : IsElem Tryz.prog 101 [.bool false, .slice none 0 0] 32 := isElem_mk (by kernel_rfl) rfl (by simp)

instance : IsAgg Tryz.prog 102 2 := isAgg_mk (by kernel_rfl)
instance : IsBuild Tryz.prog 102 [.bool false, .slice none 0 0] [(0, 2)] := ⟨by kernel_rfl, rfl⟩
instance : IsField Tryz.prog 102 0 0 := isField_mk (by kernel_rfl)
instance : HasSize Tryz.prog 102 2 := hasSize_mk (by kernel_rfl)
instance : IsZero Tryz.prog 102 [.bool false, .slice none 0 0] := isZero_mk (b := 32) (by kernel_rfl) rfl
instance : IsElem Tryz.prog 102 [.bool false, .slice none 0 0] 32 := isElem_mk (by kernel_rfl) rfl (by simp)

instance : IsScalar Tryz.prog 103 := isScalar_mk (by kernel_rfl)
instance : HasSize Tryz.prog 103 1 := hasSize_mk (by kernel_rfl)
instance : IsZero Tryz.prog 103 [.nilFunc] := isZero_mk (b := 8) (by kernel_rfl) rfl
instance : IsElem Tryz.prog 103 [.nilFunc] 8 := isElem_mk (by kernel_rfl) rfl (by simp)

instance : IsScalar Tryz.prog 104 := isScalar_mk (by kernel_rfl)
instance : HasSize Tryz.prog 104 1 := hasSize_mk (by kernel_rfl)
instance : IsZero Tryz.prog 104 [.nilFunc] := isZero_mk (b := 8) (by kernel_rfl) rfl
instance : IsElem Tryz.prog 104 [.nilFunc] 8 := isElem_mk (by kernel_rfl) rfl (by simp)

instance : IsScalar Tryz.prog 105 := isScalar_mk (by kernel_rfl)
instance : HasSize Tryz.prog 105 1 := hasSize_mk (by kernel_rfl)
instance : IsZero Tryz.prog 105 [.nilFunc] := isZero_mk (b := 8) (by kernel_rfl) rfl
instance : IsElem Tryz.prog 105 [.nilFunc] 8 := isElem_mk (by kernel_rfl) rfl (by simp)

instance : IsScalar Tryz.prog 106 := isScalar_mk (by kernel_rfl)
instance : HasSize Tryz.prog 106 1 := hasSize_mk (by kernel_rfl)
instance : IsZero Tryz.prog 106 [.nilFunc] := isZero_mk (b := 8) (by kernel_rfl) rfl
instance : IsElem Tryz.prog 106 [.nilFunc] 8 := isElem_mk (by kernel_rfl) rfl (by simp)

instance : IsScalar Tryz.prog 108 := isScalar_mk (by kernel_rfl)
instance : HasSize Tryz.prog 108 1 := hasSize_mk (by kernel_rfl)
instance : IsZero Tryz.prog 108 [.nilFunc] := isZero_mk (b := 8) (by kernel_rfl) rfl
instance : IsElem Tryz.prog 108 [.nilFunc] 8 := isElem_mk (by kernel_rfl) rfl (by simp)

instance : IsScalar Tryz.prog 109 := isScalar_mk (by kernel_rfl)
instance : HasSize Tryz.prog 109 1 := hasSize_mk (by kernel_rfl)
instance : IsZero Tryz.prog 109 [.nilFunc] := isZero_mk (b := 8) (by kernel_rfl) rfl
instance : IsElem Tryz.prog 109 [.nilFunc] 8 := isElem_mk (by kernel_rfl) rfl (by simp)

instance : IsAgg Tryz.prog 110 3 := isAgg_mk (by kernel_rfl)
instance : IsBuild Tryz.prog 110 [.int .i64 0, .int .i64 0, .int .i64 0] [(0, 1), (1, 1), (2, 1)] := ⟨by kernel_rfl, rfl⟩
instance : IsArr Tryz.prog 110 3 1 := ⟨3, by kernel_rfl, by kernel_rfl⟩
instance : HasSize Tryz.prog 110 3 := hasSize_mk (by kernel_rfl)
instance : IsZero Tryz.prog 110 [.int .i64 0, .int .i64 0, .int .i64 0] := isZero_mk (b := 24) (by kernel_rfl) rfl
instance : IsElem Tryz.prog 110 [.int .i64 0, .int .i64 0, .int .i64 0] 24 := isElem_mk (by kernel_rfl) rfl (by simp)

instance : IsScalar Tryz.prog 112 := isScalar_mk (by kernel_rfl)
instance : HasSize Tryz.prog 112 1 := hasSize_mk (by kernel_rfl)
instance : IsZero Tryz.prog 112 [.nilFunc] := isZero_mk (b := 8) (by kernel_rfl) rfl
instance : IsElem Tryz.prog 112 [.nilFunc] 8 := isElem_mk (by kernel_rfl) rfl (by simp)

instance : IsScalar Tryz.prog 113 := isScalar_mk (by kernel_rfl)
instance : HasSize Tryz.prog 113 1 := hasSize_mk (by kernel_rfl)
instance : IsZero Tryz.prog 113 [.nilFunc] := isZero_mk (b := 8) (by kernel_rfl) rfl
instance : IsElem Tryz.prog 113 [.nilFunc] 8 := isElem_mk (by kernel_rfl) rfl (by simp)

instance : IsScalar Tryz.prog 114 := isScalar_mk (by kernel_rfl)
instance : HasSize Tryz.prog 114 1 := hasSize_mk (by kernel_rfl)
instance : IsZero Tryz.prog 114 [.nilFunc] := isZero_mk (b := 8) (by kernel_rfl) rfl
instance : IsElem Tryz.prog 114 [.nilFunc] 8 := isElem_mk (by kernel_rfl) rfl (by simp)

instance : IsScalar Tryz.prog 115 := isScalar_mk (by kernel_rfl)
instance : IsSl Tryz.prog 115 23 1 := isSl_mk (by kernel_rfl) (by kernel_rfl)
instance : HasSize Tryz.prog 115 1 := hasSize_mk (by kernel_rfl)
instance : IsZero Tryz.prog 115 [.slice none 0 0] := isZero_mk (b := 24) (by kernel_rfl) rfl
instance : IsElem Tryz.prog 115 [.slice none 0 0] 24 := isElem_mk (by kernel_rfl) rfl (by simp)

instance : IsScalar Tryz.prog 116 := isScalar_mk (by kernel_rfl)
instance : HasSize Tryz.prog 116 1 := hasSize_mk (by kernel_rfl)
instance : IsZero Tryz.prog 116 [.nilFunc] := isZero_mk (b := 8) (by kernel_rfl) rfl
instance : IsElem Tryz.prog 116 [.nilFunc] 8 := isElem_mk (by kernel_rfl) rfl (by simp)

instance : IsScalar Tryz.prog 117 := isScalar_mk (by kernel_rfl)
instance : HasSize Tryz.prog 117 1 := hasSize_mk (by kernel_rfl)
instance : IsZero Tryz.prog 117 [.nilFunc] := isZero_mk (b := 8) (by kernel_rfl) rfl
instance : IsElem Tryz.prog 117 [.nilFunc] 8 := isElem_mk (by kernel_rfl) rfl (by simp)

instance : IsScalar Tryz.prog 118 := isScalar_mk (by kernel_rfl)
instance : HasSize Tryz.prog 118 1 := hasSize_mk (by kernel_rfl)
instance : IsZero Tryz.prog 118 [.nilFunc] := isZero_mk (b := 8) (by kernel_rfl) rfl
instance : IsElem Tryz.prog 118 [.nilFunc] 8 := isElem_mk (by kernel_rfl) rfl (by simp)

instance : IsScalar Tryz.prog 119 := isScalar_mk (by kernel_rfl)
instance : HasSize Tryz.prog 119 1 := hasSize_mk (by kernel_rfl)
instance : IsZero Tryz.prog 119 [.nilFunc] := isZero_mk (b := 8) (by kernel_rfl) rfl
instance : IsElem Tryz.prog 119 [.nilFunc] 8 := isElem_mk (by kernel_rfl) rfl (by simp)

instance : IsScalar Tryz.prog 120 := isScalar_mk (by kernel_rfl)
instance : HasSize Tryz.prog 120 1 := hasSize_mk (by kernel_rfl)
instance : IsZero Tryz.prog 120 [.nilFunc] := isZero_mk (b := 8) (by kernel_rfl) rfl
instance : IsElem Tryz.prog 120 [.nilFunc] 8 := isElem_mk (by kernel_rfl) rfl (by simp)

instance : IsScalar Tryz.prog 121 := isScalar_mk (by kernel_rfl)
instance : HasSize Tryz.prog 121 1 := hasSize_mk (by kernel_rfl)
instance : IsZero Tryz.prog 121 [.nilFunc] := isZero_mk (b := 8) (by kernel_rfl) rfl
instance : IsElem Tryz.prog 121 [.nilFunc] 8 := isElem_mk (by kernel_rfl) rfl (by simp)

instance : IsScalar Tryz.prog 122 := isScalar_mk (by kernel_rfl)
instance : HasSize Tryz.prog 122 1 := hasSize_mk (by kernel_rfl)
instance : IsZero Tryz.prog 122 [.nilFunc] := isZero_mk (b := 8) (by kernel_rfl) rfl
instance : IsElem Tryz.prog 122 [.nilFunc] 8 := isElem_mk (by kernel_rfl) rfl (by simp)

instance : IsScalar Tryz.prog 123 := isScalar_mk (by kernel_rfl)
instance : HasSize Tryz.prog 123 1 := hasSize_mk (by kernel_rfl)
instance : IsZero Tryz.prog 123 [.nilFunc] := isZero_mk (b := 8) (by kernel_rfl) rfl
instance : IsElem Tryz.prog 123 [.nilFunc] 8 := isElem_mk (by kernel_rfl) rfl (by simp)

instance : IsScalar Tryz.prog 124 := isScalar_mk (by kernel_rfl)
instance : HasSize Tryz.prog 124 1 := hasSize_mk (by kernel_rfl)
instance : IsZero Tryz.prog 124 [.nilFunc] := isZero_mk (b := 8) (by kernel_rfl) rfl
instance : IsElem Tryz.prog 124 [.nilFunc] 8 := isElem_mk (by kernel_rfl) rfl (by simp)

instance : IsScalar Tryz.prog 125 := isScalar_mk (by kernel_rfl)
instance : HasSize Tryz.prog 125 1 := hasSize_mk (by kernel_rfl)
instance : IsZero Tryz.prog 125 [.nilFunc] := isZero_mk (b := 8) (by kernel_rfl) rfl
instance : IsElem Tryz.prog 125 [.nilFunc] 8 := isElem_mk (by kernel_rfl) rfl (by simp)

instance : IsScalar Tryz.prog 126 := isScalar_mk (by kernel_rfl)
instance : HasSize Tryz.prog 126 1 := hasSize_mk (by kernel_rfl)
instance : IsZero Tryz.prog 126 [.nilFunc] := isZero_mk (b := 8) (by kernel_rfl) rfl
instance : IsElem Tryz.prog 126 [.nilFunc] 8 := isElem_mk (by kernel_rfl) rfl (by simp)

instance : IsScalar Tryz.prog 128 := isScalar_mk (by kernel_rfl)
instance : HasSize Tryz.prog 128 1 := hasSize_mk (by kernel_rfl)
instance : IsZero Tryz.prog 128 [.nilFunc] := isZero_mk (b := 8) (by kernel_rfl) rfl
instance : IsElem Tryz.prog 128 [.nilFunc] 8 := isElem_mk (by kernel_rfl) rfl (by simp)

instance : IsScalar Tryz.prog 129 := isScalar_mk (by kernel_rfl)
instance : HasSize Tryz.prog 129 1 := hasSize_mk (by kernel_rfl)
instance : IsZero Tryz.prog 129 [.nilFunc] := isZero_mk (b := 8) (by kernel_rfl) rfl
instance : IsElem Tryz.prog 129 [.nilFunc] 8 := isElem_mk (by kernel_rfl) rfl (by simp)

instance : IsScalar Tryz.prog 130 := isScalar_mk (by kernel_rfl)
instance : HasSize Tryz.prog 130 1 := hasSize_mk (by kernel_rfl)
instance : IsZero Tryz.prog 130 [.pointer none] := isZero_mk (b := 8) (by kernel_rfl) rfl
instance : IsElem Tryz.prog 130 [.pointer none] 8 := isElem_mk (by kernel_rfl) rfl (by simp)

instance : IsAgg Tryz.prog 131 2 := isAgg_mk (by kernel_rfl)
instance : IsBuild Tryz.prog 131 [.slice none 0 0, .slice none 0 0] [(0, 1), (1, 1)] := ⟨by kernel_rfl, rfl⟩
instance : IsField Tryz.prog 131 0 0 := isField_mk (by kernel_rfl)
instance : IsField Tryz.prog 131 1 1 := isField_mk (by kernel_rfl)
instance : HasSize Tryz.prog 131 2 := hasSize_mk (by kernel_rfl)
instance : IsZero Tryz.prog 131 [.slice none 0 0, .slice none 0 0] := isZero_mk (b := 48) (by kernel_rfl) rfl
instance : IsElem Tryz.prog 131 [.slice none 0 0, .slice none 0 0] 48 := isElem_mk (by kernel_rfl) rfl (by simp)

instance : IsAgg Tryz.prog 132 2 := isAgg_mk (by kernel_rfl)
instance : IsBuild Tryz.prog 132 [.slice none 0 0, .slice none 0 0] [(0, 1), (1, 1)] := ⟨by kernel_rfl, rfl⟩
instance : IsField Tryz.prog 132 0 0 := isField_mk (by kernel_rfl)
instance : IsField Tryz.prog 132 1 1 := isField_mk (by kernel_rfl)
instance : HasSize Tryz.prog 132 2 := hasSize_mk (by kernel_rfl)
instance : IsZero Tryz.prog 132 [.slice none 0 0, .slice none 0 0] := isZero_mk (b := 48) (by kernel_rfl) rfl
instance : IsElem Tryz.prog 132 [.slice none 0 0, .slice none 0 0] 48 := isElem_mk (by kernel_rfl) rfl (by simp)

instance : IsScalar Tryz.prog 133 := isScalar_mk (by kernel_rfl)
instance : HasSize Tryz.prog 133 1 := hasSize_mk (by kernel_rfl)
instance : IsZero Tryz.prog 133 [.nilFunc] := isZero_mk (b := 8) (by kernel_rfl) rfl
instance : IsElem Tryz.prog 133 [.nilFunc] 8 := isElem_mk (by kernel_rfl) rfl (by simp)

instance : IsScalar Tryz.prog 134 := isScalar_mk (by kernel_rfl)
instance : HasSize Tryz.prog 134 1 := hasSize_mk (by kernel_rfl)
instance : IsZero Tryz.prog 134 [.nilFunc] := isZero_mk (b := 8) (by kernel_rfl) rfl
instance : IsElem Tryz.prog 134 [.nilFunc] 8 := isElem_mk (by kernel_rfl) rfl (by simp)

instance : IsScalar Tryz.prog 135 := isScalar_mk (by kernel_rfl)
instance : HasSize Tryz.prog 135 1 := hasSize_mk (by kernel_rfl)
instance : IsZero Tryz.prog 135 [.nilFunc] := isZero_mk (b := 8) (by kernel_rfl) rfl
instance : IsElem Tryz.prog 135 [.nilFunc] 8 := isElem_mk (by kernel_rfl) rfl (by simp)

instance : IsScalar Tryz.prog 136 := isScalar_mk (by kernel_rfl)
instance : HasSize Tryz.prog 136 1 := hasSize_mk (by kernel_rfl)
instance : IsZero Tryz.prog 136 [.nilFunc] := isZero_mk (b := 8) (by kernel_rfl) rfl
instance : IsElem Tryz.prog 136 [.nilFunc] 8 := isElem_mk (by kernel_rfl) rfl (by simp)

instance : IsScalar Tryz.prog 137 := isScalar_mk (by kernel_rfl)
instance : HasSize Tryz.prog 137 1 := hasSize_mk (by kernel_rfl)
instance : IsZero Tryz.prog 137 [.nilFunc] := isZero_mk (b := 8) (by kernel_rfl) rfl
instance : IsElem Tryz.prog 137 [.nilFunc] 8 := isElem_mk (by kernel_rfl) rfl (by simp)

instance : IsAgg Tryz.prog 138 64 := isAgg_mk (by kernel_rfl)
instance : IsBuild Tryz.prog 138 [.int .u8 0, .int .u8 0, .int .u8 0, .int .u8 0, .int .u8 0, .int .u8 0, .int .u8 0, .int .u8 0, .int .u8 0, .int .u8 0, .int .u8 0, .int .u8 0, .int .u8 0, .int .u8 0, .int .u8 0, .int .u8 0, .int .u8 0, .int .u8 0, .int .u8 0, .int .u8 0, .int .u8 0, .int .u8 0, .int .u8 0, .int .u8 0, .int .u8 0, .int .u8 0, .int .u8 0, .int .u8 0, .int .u8 0, .int .u8 0, .int .u8 0, .int .u8 0, .int .u8 0, .int .u8 0, .int .u8 0, .int .u8 0, .int .u8 0, .int .u8 0, .int .u8 0, .int .u8 0, .int .u8 0, .int .u8 0, .int .u8 0, .int .u8 0, .int .u8 0, .int .u8 0, .int .u8 0, .int .u8 0, .int .u8 0, .int .u8 0, .int .u8 0, .int .u8 0, .int .u8 0, .int .u8 0, .int .u8 0, .int .u8 0, .int .u8 0, .int .u8 0, .int .u8 0, .int .u8 0, .int .u8 0, .int .u8 0, .int .u8 0, .int .u8 0] [(0, 1), (1, 1), (2, 1), (3, 1), (4, 1), (5, 1), (6, 1), (7, 1), (8, 1), (9, 1), (10, 1), (11, 1), (12, 1), (13, 1), (14, 1), (15, 1), (16, 1), (17, 1), (18, 1), (19, 1), (20, 1), (21, 1), (22, 1), (23, 1), (24, 1), (25, 1), (26, 1), (27, 1), (28, 1), (29, 1), (30, 1), (31, 1), (32, 1), (33, 1), (34, 1), (35, 1), (36, 1), (37, 1), (38, 1), (39, 1), (40, 1), (41, 1), (42, 1), (43, 1), (44, 1), (45, 1), (46, 1), (47, 1), (48, 1), (49, 1), (50, 1), (51, 1), (52, 1), (53, 1), (54, 1), (55, 1), (56, 1), (57, 1), (58, 1), (59, 1), (60, 1), (61, 1), (62, 1), (63, 1)] := ⟨by kernel_rfl, rfl⟩
instance : IsArr Tryz.prog 138 64 1 := ⟨5, by kernel_rfl, by kernel_rfl⟩
instance : HasSize Tryz.prog 138 64 := hasSize_mk (by kernel_rfl)
instance : IsZero Tryz.prog 138 [.int .u8 0, .int .u8 0, .int .u8 0, .int .u8 0, .int .u8 0, .int .u8 0, .int .u8 0, .int .u8 0, .int .u8 0, .int .u8 0, .int .u8 0, .int .u8 0, .int .u8 0, .int .u8 0, .int .u8 0, .int .u8 0, .int .u8 0, .int .u8 0, .int .u8 0, .int .u8 0, .int .u8 0, .int .u8 0, .int .u8 0, .int .u8 0, .int .u8 0, .int .u8 0, .int .u8 0, .int .u8 0, .int .u8 0, .int .u8 0, .int .u8 0, .int .u8 0, .int .u8 0, .int .u8 0, .int .u8 0, .int .u8 0, .int .u8 0, .int .u8 0, .int .u8 0, .int .u8 0, .int .u8 0, .int .u8 0, .int .u8 0, .int .u8 0, .int .u8 0, .int .u8 0, .int .u8 0, .int .u8 0, .int .u8 0, .int .u8 0, .int .u8 0, .int .u8 0, .int .u8 0, .int .u8 0, .int .u8 0, .int .u8 0, .int .u8 0, .int .u8 0, .int .u8 0, .int .u8 0, .int .u8 0, .int .u8 0, .int .u8 0, .int .u8 0] := isZero_mk (b := 64) (by kernel_rfl) rfl
instance : IsElem Tryz.prog 138 [.int .u8 0, .int .u8 0, .int .u8 0, .int .u8 0, .int .u8 0, .int .u8 0, .int .u8 0, .int .u8 0, .int .u8 0, .int .u8 0, .int .u8 0, .int .u8 0, .int .u8 0, .int .u8 0, .int .u8 0, .int .u8 0, .int .u8 0, .int .u8 0, .int .u8 0, .int .u8 0, .int .u8 0, .int .u8 0, .int .u8 0, .int .u8 0, .int .u8 0, .int .u8 0, .int .u8 0, .int .u8 0, .int .u8 0, .int .u8 0, .int .u8 0, .int .u8 0, .int .u8 0, .int .u8 0, .int .u8 0, .int .u8 0, .int .u8 0, .int .u8 0, .int .u8 0, .int .u8 0, .int .u8 0, .int .u8 0, .int .u8 0, .int .u8 0, .int .u8 0, .int .u8 0, .int .u8 0, .int .u8 0, .int .u8 0, .int .u8 0, .int .u8 0, .int .u8 0, .int .u8 0, .int .u8 0, .int .u8 0, .int .u8 0, .int .u8 0, .int .u8 0, .int .u8 0, .int .u8 0, .int .u8 0, .int .u8 0, .int .u8 0, .int .u8 0] 64 := isElem_mk (by kernel_rfl) rfl (by simp)

instance : IsScalar Tryz.prog 139 := isScalar_mk (by kernel_rfl)
instance : HasSize Tryz.prog 139 1 := hasSize_mk (by kernel_rfl)
instance : IsZero Tryz.prog 139 [.nilFunc] := isZero_mk (b := 8) (by kernel_rfl) rfl
instance : IsElem Tryz.prog 139 [.nilFunc] 8 := isElem_mk (by kernel_rfl) rfl (by simp)

instance : IsScalar Tryz.prog 141 := isScalar_mk (by kernel_rfl)
instance : HasSize Tryz.prog 141 1 := hasSize_mk (by kernel_rfl)
instance : IsZero Tryz.prog 141 [.nilFunc] := isZero_mk (b := 8) (by kernel_rfl) rfl
instance : IsElem Tryz.prog 141 [.nilFunc] 8 := isElem_mk (by kernel_rfl) rfl (by simp)

instance : IsScalar Tryz.prog 142 := isScalar_mk (by kernel_rfl)
instance : HasSize Tryz.prog 142 1 := hasSize_mk (by kernel_rfl)
instance : IsZero Tryz.prog 142 [.nilFunc] := isZero_mk (b := 8) (by kernel_rfl) rfl
instance : IsElem Tryz.prog 142 [.nilFunc] 8 := isElem_mk (by kernel_rfl) rfl (by simp)

instance : IsScalar Tryz.prog 143 := isScalar_mk (by kernel_rfl)
instance : HasSize Tryz.prog 143 1 := hasSize_mk (by kernel_rfl)
instance : IsZero Tryz.prog 143 [.nilFunc] := isZero_mk (b := 8) (by kernel_rfl) rfl
instance : IsElem Tryz.prog 143 [.nilFunc] 8 := isElem_mk (by kernel_rfl) rfl (by simp)

instance : IsScalar Tryz.prog 144 := isScalar_mk (by kernel_rfl)
instance : HasSize Tryz.prog 144 1 := hasSize_mk (by kernel_rfl)
instance : IsZero Tryz.prog 144 [.nilFunc] := isZero_mk (b := 8) (by kernel_rfl) rfl
instance : IsElem Tryz.prog 144 [.nilFunc] 8 := isElem_mk (by kernel_rfl) rfl (by simp)

instance : IsScalar Tryz.prog 146 := isScalar_mk (by kernel_rfl)
instance : HasSize Tryz.prog 146 1 := hasSize_mk (by kernel_rfl)
instance : IsZero Tryz.prog 146 [.nilFunc] := isZero_mk (b := 8) (by kernel_rfl) rfl
instance : IsElem Tryz.prog 146 [.nilFunc] 8 := isElem_mk (by kernel_rfl) rfl (by simp)

instance : IsScalar Tryz.prog 147 := isScalar_mk (by kernel_rfl)
instance : HasSize Tryz.prog 147 1 := hasSize_mk (by kernel_rfl)
instance : IsZero Tryz.prog 147 [.nilFunc] := isZero_mk (b := 8) (by kernel_rfl) rfl
instance : IsElem Tryz.prog 147 [.nilFunc] 8 := isElem_mk (by kernel_rfl) rfl (by simp)

instance : IsScalar Tryz.prog 148 := isScalar_mk (by kernel_rfl)
instance : HasSize Tryz.prog 148 1 := hasSize_mk (by kernel_rfl)
instance : IsZero Tryz.prog 148 [.nilFunc] := isZero_mk (b := 8) (by kernel_rfl) rfl
instance : IsElem Tryz.prog 148 [.nilFunc] 8 := isElem_mk (by kernel_rfl) rfl (by simp)

instance : IsScalar Tryz.prog 156 := isScalar_mk (by kernel_rfl)
instance : HasSize Tryz.prog 156 1 := hasSize_mk (by kernel_rfl)
instance : IsZero Tryz.prog 156 [.nilFunc] := isZero_mk (b := 8) (by kernel_rfl) rfl
instance : IsElem Tryz.prog 156 [.nilFunc] 8 := isElem_mk (by kernel_rfl) rfl (by simp)

instance : IsScalar Tryz.prog 157 := isScalar_mk (by kernel_rfl)
instance : HasSize Tryz.prog 157 1 := hasSize_mk (by kernel_rfl)
instance : IsZero Tryz.prog 157 [.pointer none] := isZero_mk (b := 8) (by kernel_rfl) rfl
instance : IsElem Tryz.prog 157 [.pointer none] 8 := isElem_mk (by kernel_rfl) rfl (by simp)

end Go.Proofs
