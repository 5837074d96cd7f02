/- The law LineParts, on the facts. -/
import Derived.Test.YtcdlcfihjfhkgaaGreatDoorSso
namespace Num
open Go Go.Lib
def nl (ws : List (List UInt8)) : List UInt8 := ws.flatMap fun w => w ++ [10]
theorem nl_join {ws : List (List UInt8)} (h : ws ≠ []) : nl ws = join ws [10] ++ [10] := by
  induction ws with
  | nil => exact absurd rfl h
  | cons w v ih =>
    cases v with
    | nil => simp [nl, join]
    | cons y v =>
      have := ih (by simp)
      unfold nl join at this ⊢
      rw [List.flatMap_cons, this, List.intercalate_cons_cons]; simp
theorem lnOk_snoc (r : List UInt8) : lnOk (r ++ [10]) = ful (spl 10 r) ∧ trimSuffix (r ++ [10]) [10] = r := by
  rcases suffix_cases (r ++ [10]) 10 with ⟨r', h, hs, ht⟩ | ⟨_, _, h⟩
  · have e : r = r' := (List.append_inj_left' h rfl)
    subst e
    exact ⟨by unfold lnOk; rw [hs, ht]; rfl, ht⟩
  · exact absurd (by simp) h
theorem ful_snoc (ws : List (List UInt8)) : ful (ws ++ [[]]) = false := by unfold ful; rw [List.all_append]; simp
theorem join32_le {ws : List (List UInt8)} (hne : ws ≠ []) : (join ws [32]).length + 1 = (nl ws).length := by
  induction ws with
  | nil => exact absurd rfl hne
  | cons w v ih =>
    cases v with
    | nil => simp [nl, join]
    | cons y v =>
      have := ih (by simp)
      unfold nl join at this ⊢
      rw [List.flatMap_cons, List.intercalate_cons_cons]; simp only [List.length_append, List.length_singleton] at this ⊢; omega
end Num
namespace Go.Proofs
open Go Go.Sv Num
variable {G : Imm}
end Go.Proofs
