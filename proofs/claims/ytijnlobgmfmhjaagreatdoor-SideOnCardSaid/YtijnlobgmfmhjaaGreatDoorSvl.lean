/- The facts on types, as a program computes them. -/
import Derived.Test.YtijnlobgmfmhjaaGreatDoorSvk
namespace Go.Sv
open Go
variable {P : Program} {t e st n : Nat}
theorem isSl_mk (h1 : P.underlying t = some (.slice e)) (h2 : (P.info? e).map (·.size) = some st) : IsSl P t e st :=
  ⟨h1, by obtain ⟨i, hi, hs⟩ := Option.map_eq_some_iff.1 h2; exact ⟨i, hi, hs⟩⟩
def scalarOf (P : Program) (t : TypeId) : Bool := match P.underlying t with
  | some (.struct _) | some (.array _ _) | none => false
  | _ => true
theorem isScalar_mk (h : scalarOf P t = true) : IsScalar P t := by
  unfold scalarOf at h
  cases hu : P.underlying t with
  | none => rw [hu] at h; cases h
  | some d => exact ⟨d, hu, by rw [hu] at h; cases d <;> simp_all⟩
def aggOf (P : Program) (t : TypeId) : Option Nat := match P.underlying t with
  | some (.struct _) | some (.array _ _) => (P.info? t).map (·.size)
  | _ => none
theorem isAgg_mk (h : aggOf P t = some n) : IsAgg P t n := by
  unfold aggOf at h
  cases hu : P.underlying t with
  | none => rw [hu] at h; cases h
  | some d =>
    rw [hu] at h
    cases d <;> simp at h
    all_goals exact ⟨⟨_, hu, trivial⟩, by obtain ⟨i, hi, hs⟩ := h; exact ⟨i, hi, hs⟩⟩
def fieldOf (P : Program) (s k : Nat) : Option Nat := match P.underlying s with
  | some (.struct fs) => match fs[k]? with
    | some f => match P.info? f.type with
      | some i => match Nat.beq i.size 0 with
        | true => none
        | false => some f.offset
      | none => none
    | none => none
  | _ => none
theorem isField_mk {s k off : Nat} (h : fieldOf P s k = some off) : IsField P s k off := by
  unfold fieldOf at h
  split at h
  · rename_i fs hu
    split at h
    · rename_i f hf
      split at h
      · rename_i i hi
        split at h
        · cases h
        · rename_i hz; cases h; exact ⟨fs, f, i, hu, hf, rfl, hi, fun h0 => by rw [h0] at hz; simp at hz⟩
      · cases h
    · cases h
  · cases h
def zeroOf (P : Program) (t : TypeId) : Option (List Value × Nat) := match P.info? t with
  | some i => match i.zero with
    | some z => match Nat.beq i.size z.cells.size with
      | true => some (z.cells.toList, i.bytes)
      | false => none
    | none => none
  | none => none
theorem zeroOf_spec {zs : List Value} {b : Nat} (h : zeroOf P t = some (zs, b)) : ∃ i z, P.info? t = some i ∧ i.zero = some z ∧ z.cells = zs.toArray ∧ i.size = zs.length ∧ i.bytes = b := by
  unfold zeroOf at h
  split at h
  · rename_i i hi
    split at h
    · rename_i z hz
      split at h
      · rename_i hs; cases h; exact ⟨i, z, hi, hz, by simp, by rw [Nat.eq_of_beq_eq_true hs]; simp, rfl⟩
      · cases h
    · cases h
  · cases h
theorem isZero_mk {zs : List Value} {b : Nat} (h : zeroOf P t = some (zs, b)) (h1 : oneAll zs = true) : IsZero P t zs := by
  obtain ⟨i, z, h2, h3, h4, h5, _⟩ := zeroOf_spec h
  exact ⟨⟨i, z, h2, h3, h4, h5⟩, allOne_of h1⟩
theorem hasSize_mk (h : (P.info? t).map (·.size) = some n) : HasSize P t n := ⟨by obtain ⟨i, hi, hs⟩ := Option.map_eq_some_iff.1 h; exact ⟨i, hi, hs⟩⟩
theorem isElem_mk {zs : List Value} {b : Nat} (h : zeroOf P t = some (zs, b)) (h1 : oneAll zs = true) (h2 : zs ≠ []) : IsElem P t zs b := ⟨zeroOf_spec h, h1, h2⟩
end Go.Sv
