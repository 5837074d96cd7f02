/- scene: what it is made of, its points, how many digits. -/
import Derived.Test.YtofplgefmjojjaaGreatDoorSsn
import Derived.Test.YtofplgefmjojjaaGreatDoorSv7
import Derived.Test.YtofplgefmjojjaaGreatDoorSnx
namespace Num
open Go Go.Lib
abbrev RQ := Bool × List Nat × List Nat
abbrev RP := RQ × RQ
abbrev Sc := List RP × List (List RP) × List (RP × RP)
abbrev wRob : List UInt8 := [114, 111, 98, 111, 116]
abbrev wObs : List UInt8 := [111, 98, 115, 116, 97, 99, 108, 101]
abbrev wQue : List UInt8 := [113, 117, 101, 114, 121]
def scL (s : Sc) : List (List UInt8 × List RP) := (wRob, s.1) :: (s.2.1.map (fun l => (wObs, l)) ++ s.2.2.map fun q => (wQue, [q.1, q.2]))
theorem scL_obs {s : Sc} {k : Nat} {l : List RP} (h : s.2.1[k]? = some l) : (scL s)[k + 1]? = some (wObs, l) := by
 have hk := (List.getElem?_eq_some_iff.1 h).1
 unfold scL
 rw [List.getElem?_cons_succ, List.getElem?_append_left (by simpa using hk), List.getElem?_map, h]; rfl
theorem scL_len (s : Sc) : (scL s).length = s.2.1.length + s.2.2.length + 1 := by simp [scL]
def rawQ (q : Rat) : RQ := (decide (q.num < 0), dig q.num.natAbs, dig q.den)
def rawP (p : Rat × Rat) : RP := (rawQ p.1, rawQ p.2)
def scPts (s : Sc) : List RP := (scL s).flatMap (·.2)
theorem flat_take_le {α β : Type} (f : α → List β) (l : List α) (k : Nat) : ((l.take k).flatMap f).length ≤ (l.flatMap f).length := by
 conv => rhs; rw [← List.take_append_drop k l, List.flatMap_append, List.length_append]
 omega
theorem flat_succ {α β : Type} (f : α → List β) {l : List α} {k : Nat} {x : α} (h : l[k]? = some x) : (l.take (k + 1)).flatMap f = (l.take k).flatMap f ++ f x := by
 rw [List.take_add_one, h, List.flatMap_append]; simp
def nD (q : Rat) : Nat := max (nDigits q.num.natAbs) (nDigits q.den)
end Num
namespace Go.Proofs
open Go Go.Sv Num
variable {G : Imm}
structure ScOk (s : Sc) (k n : Nat) : Prop where
 pos : 0 < k
 pt : ∀ x ∈ scL s, ∀ p ∈ x.2, PtOk k p
 len : (scPts s).length ≤ n
 row : (scL s).length ≤ n
theorem ScOk.lrow {s : Sc} {k n : Nat} (h : ScOk s k n) {x : List UInt8 × List RP} (hx : x ∈ scL s) : x.2.length ≤ n := by
 obtain ⟨i, hi⟩ := List.getElem?_of_mem hx
 have h1 := flat_succ (fun x : List UInt8 × List RP => x.2) hi
 have h2 := flat_take_le (fun x : List UInt8 × List RP => x.2) (scL s) (i + 1)
 have h3 := h.len
 unfold scPts at h3
 rw [h1, List.length_append] at h2
 omega
theorem mem_rob (s : Sc) : (wRob, s.1) ∈ scL s := by simp [scL]
theorem mem_obs {s : Sc} {l : List RP} (h : l ∈ s.2.1) : (wObs, l) ∈ scL s := by
 obtain ⟨i, hi⟩ := List.getElem?_of_mem h; exact List.mem_of_getElem? (scL_obs hi)
theorem rawQ_qv (q : Rat) : qv (rawQ q) = q := by
 show mkRat (sgn (decide (q.num < 0)) (val (dig q.num.natAbs))) (val (dig q.den)) = q
 rw [val_dig, val_dig, sgn_self]; exact Rat.mkRat_self q
abbrev rowC (l : List RP) : List SV := [slS 6 pc l]
abbrev queC (q : RP × RP) : List SV := pc q.1 ++ pc q.2
abbrev scC (s : Sc) : List SV := [slS 6 pc s.1, slS 1 rowC s.2.1, slS 12 queC s.2.2]
end Go.Proofs
/- scene: a scene in lowest terms; the same scenes. -/
namespace Num
abbrev QP := Rat × Rat
abbrev QS := List QP × List (List QP) × List (QP × QP)
end Num
namespace Go.Proofs
open Go Go.Sv Num
variable {G : Imm}
abbrev qrowC (l : List QP) : List SV := [slS 6 pcan l]
abbrev qqueC (q : QP × QP) : List SV := pcan q.1 ++ pcan q.2
abbrev qsC (s : QS) : List SV := [slS 6 pcan s.1, slS 1 qrowC s.2.1, slS 12 qqueC s.2.2]
def pvs (l : List RP) : List QP := l.map pv
def pv2 (q : RP × RP) : QP × QP := (pv q.1, pv q.2)
def nrm (s : Sc) : QS := (pvs s.1, s.2.1.map pvs, s.2.2.map pv2)
theorem flat_qrow : ∀ l : List (List QP), (l.flatMap qrowC).length = l.length * 1
 | [] => rfl
 | x :: l => by rw [List.flatMap_cons, List.length_append, flat_qrow l, List.length_cons]; simp; omega
theorem flat_qque : ∀ l : List (QP × QP), (l.flatMap qqueC).length = l.length * 12
 | [] => rfl
 | x :: l => by rw [List.flatMap_cons, List.length_append, flat_qque l, List.length_cons]; simp; omega
end Go.Proofs
/- scene: the same scenes. -/
namespace Go.Proofs
open Go Go.Sv Num
variable {G : Imm}
end Go.Proofs
/- scene: a scene as a text. -/
namespace Num
open Go Go.Lib
def ptT (p : Rat × Rat) : List (List UInt8) := [txtF p.1, txtF p.2]
def rowW (w : List UInt8) (l : List (Rat × Rat)) : List (List UInt8) := w :: l.flatMap ptT
def lnT (w : List UInt8) (l : List (Rat × Rat)) : List UInt8 := join (rowW w l) [32] ++ [10]
theorem rowW_len (w : List UInt8) (l : List (Rat × Rat)) : (rowW w l).length = 2 * l.length + 1 := by
 unfold rowW
 rw [List.length_cons]
 induction l with
 | nil => rfl
 | cons p l ih => rw [List.flatMap_cons, List.length_append, List.length_cons]; simp only [ptT, List.length_cons, List.length_nil] at ih ⊢; omega
end Num
namespace Go.Proofs
open Go Go.Sv Num
variable {G : Imm}
def lnX (x : List UInt8 × List RP) : List UInt8 := lnT x.1 (pvs x.2)
def scT (s : Sc) : List UInt8 := (scL s).flatMap lnX
end Go.Proofs
