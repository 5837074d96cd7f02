/- Numbers as texts: what a text of a number says, and the text of a number: plain facts, no program. -/
import Derived.Lib.IndexMore
import Derived.Lib.Join
import Derived.Lib.Strings
import Derived.Test.YtofplgefmjojjaaGreatDoorSmt
namespace Num
open Go Go.Lib
def zn (b : Bool) (n : Nat) : Int := if b then -(n : Int) else n
def numF (a b : List UInt8) (m : Bool) : Rat × Int × Int :=
 let t := trimPrefix a [45]
 if okD t = false then (0, 0, 60)
 else if m = false then (mkRat (zn (hasPrefix a [45]) (valD t)) 1, (t.length : Nat), 0)
 else if okD b = false then (0, 0, 60)
 else if valD b = 0 then (0, ((max t.length b.length : Nat) : Int), 30)
 else (mkRat (zn (hasPrefix a [45]) (valD t)) (valD b), ((max t.length b.length : Nat) : Int), 0)
def itxt (z : Int) : List UInt8 := if z < 0 then 45 :: decDigits z.natAbs else decDigits z.natAbs
def txtF (q : Rat) : List UInt8 := itxt q.num ++ (if q.den = 1 then [] else 47 :: decDigits q.den)
theorem isD_ne {c d : UInt8} (h : isD c = true) (hd : isD d = false) : c ≠ d := fun e => by rw [e, hd] at h; cases h
theorem all_ne {l : List UInt8} {d : UInt8} (h : l.all isD = true) (hd : isD d = false) : ∀ x ∈ l, x ≠ d := fun _ hx => isD_ne (List.all_eq_true.1 h _ hx) hd
theorem itxt_ne47 (z : Int) : ∀ x ∈ itxt z, x ≠ 47 := fun x hx => by
 unfold itxt at hx
 split at hx
 ·rcases List.mem_cons.1 hx with rfl | hx
  ·decide
  ·exact all_ne (dec_all _) (by decide) x hx
 ·exact all_ne (dec_all _) (by decide) x hx
theorem dec_cons45 (n : Nat) : hasPrefix (decDigits n) [45] = false ∧ trimPrefix (decDigits n) [45] = decDigits n := by
  have h1 := dec_all n
  have : hasPrefix (decDigits n) [45] = false := by
    cases h2 : decDigits n with
    | nil => decide
    | cons c r =>
      rw [h2] at h1
      simp only [List.all_cons, Bool.and_eq_true] at h1
      have h3 : ¬ (45 : UInt8) = c := fun e => isD_ne h1.1 (by decide) e.symm
      simp [hasPrefix, List.isPrefixOf, h3]
  exact ⟨this, by unfold trimPrefix; rw [this]; rfl⟩
theorem pre_itxt (z : Int) : hasPrefix (itxt z) [45] = decide (z < 0) ∧ trimPrefix (itxt z) [45] = decDigits z.natAbs := by
 unfold itxt
 by_cases h : z < 0
 ·rw [if_pos h, decide_eq_true h]
  have : hasPrefix (45 :: decDigits z.natAbs) [45] = true := by simp [hasPrefix, List.isPrefixOf]
  exact ⟨this, by unfold trimPrefix; rw [this]; rfl⟩
 ·rw [if_neg h, decide_eq_false h]
  exact dec_cons45 _
theorem okD_dec {n : Nat} (h : nDigits n ≤ 60) : okD (decDigits n) = true := by
 unfold okD
 rw [dec_all, decDigits_length]
 have : (decDigits n).isEmpty = false := by
  cases h2 : decDigits n with
  | nil => have := decDigits_length n; rw [h2] at this; have := nDigits_pos n; simp at *; omega
  | cons c r => rfl
 rw [this]; simpa using h
theorem zn_natAbs (z : Int) : zn (decide (z < 0)) z.natAbs = z := by
 unfold zn
 by_cases h : z < 0
 ·rw [decide_eq_true h, if_pos rfl]; omega
 ·rw [decide_eq_false h, if_neg (by decide)]; omega
end Num
namespace Num
open Go Go.Lib
def spl (c : UInt8) : List UInt8 → List (List UInt8)
  | [] => [[]]
  | x :: r => if x = c then [] :: spl c r else match spl c r with
    | [] => [[x]]
    | p :: q => (x :: p) :: q
theorem spl_ne (c : UInt8) (l : List UInt8) : spl c l ≠ [] := by
  cases l with
  | nil => simp [spl]
  | cons x r =>
    unfold spl
    split
    · simp
    · split <;> simp
theorem spl_app {c : UInt8} {p : List UInt8} (r : List UInt8) (h : ∀ x ∈ p, x ≠ c) : spl c (p ++ c :: r) = p :: spl c r := by
  induction p with
  | nil => simp [spl]
  | cons x p ih =>
    have h1 := ih fun y hy => h y (List.mem_cons_of_mem _ hy)
    rw [List.cons_append, spl, if_neg (h x (List.mem_cons_self ..)), h1]
theorem spl_none {c : UInt8} {p : List UInt8} (h : ∀ x ∈ p, x ≠ c) : spl c p = [p] := by
 induction p with
 | nil => rfl
 | cons x p ih => rw [spl, if_neg (h x (List.mem_cons_self ..)), ih fun y hy => h y (List.mem_cons_of_mem _ hy)]
theorem spl_cases (c : UInt8) (l : List UInt8) : (∀ x ∈ l, x ≠ c) ∨ ∃ p r, l = p ++ c :: r ∧ ∀ x ∈ p, x ≠ c := by
  induction l with
  | nil => exact .inl fun _ h => by cases h
  | cons x l ih =>
    by_cases h : x = c
    · exact .inr ⟨[], l, by rw [h]; rfl, fun _ h => by cases h⟩
    · rcases ih with ih | ⟨p, r, rfl, hp⟩
      · exact .inl fun y hy => by rcases List.mem_cons.1 hy with rfl | hy; exact h; exact ih y hy
      · exact .inr ⟨x :: p, r, rfl, fun y hy => by rcases List.mem_cons.1 hy with rfl | hy; exact h; exact hp y hy⟩
theorem occ_one {c : UInt8} {l : List UInt8} {i : Nat} : occAt l [c] i = true ↔ l[i]? = some c := by
 unfold occAt
 rw [← List.head?_drop]
 cases h : l.drop i with
 | nil => simp [List.isPrefixOf]
 | cons x r => simp [List.isPrefixOf]; exact eq_comm
theorem cut_app {c : UInt8} {p : List UInt8} (r : List UInt8) (h : ∀ x ∈ p, x ≠ c) : cut (p ++ c :: r) [c] = (p, r, true) := by
 have hi : index (p ++ c :: r) [c] = (p.length : Nat) := index_first (by simp) (occ_one.2 (by simp)) fun j hj => by
  rw [Bool.eq_false_iff]
  intro e
  have := occ_one.1 e
  rw [List.getElem?_append_left hj] at this
  exact h c (List.mem_of_getElem? this) rfl
 unfold cut
 rw [hi, if_pos (by omega)]
 simp
theorem cut_none {c : UInt8} {p : List UInt8} (h : ∀ x ∈ p, x ≠ c) : cut p [c] = (p, [], false) := by
 have hi : index p [c] = -1 := by
  rcases index_spec p [c] with h1 | ⟨i, _, _, h2, _⟩
  ·exact h1.1
  ·exact absurd rfl (h c (List.mem_of_getElem? (occ_one.1 h2)))
 unfold cut
 rw [hi, if_neg (by omega)]
theorem join_spl (c : UInt8) (l : List UInt8) : join (spl c l) [c] = l := by
  induction l with
  | nil => rfl
  | cons x r ih =>
    unfold join at ih ⊢
    unfold spl
    split
    · rename_i h
      subst h
      cases hs : spl x r with
      | nil => exact absurd hs (spl_ne _ _)
      | cons p q => rw [hs] at ih; rw [List.intercalate_cons_cons, ih]; rfl
    · cases hs : spl c r with
      | nil => exact absurd hs (spl_ne _ _)
      | cons p q =>
        rw [hs] at ih
        simp only
        cases q with
        | nil => simpa using ih
        | cons p2 q => rw [List.intercalate_cons_cons] at ih ⊢; rw [← ih]; simp
theorem spl_join {c : UInt8} : ∀ {ws : List (List UInt8)}, ws ≠ [] → (∀ w ∈ ws, ∀ x ∈ w, x ≠ c) → spl c (join ws [c]) = ws
  | [], h, _ => absurd rfl h
  | [w], _, h => by
    have : join [w] [c] = w := by simp [join]
    rw [this, spl_none (h w (List.mem_cons_self ..))]
  | w :: v :: ws, _, h => by
    have h1 := spl_join (ws := v :: ws) (by simp) fun u hu => h u (List.mem_cons_of_mem _ hu)
    unfold join at h1 ⊢
    rw [List.intercalate_cons_cons, List.append_assoc, show [c] ++ [c].intercalate (v :: ws) = c :: [c].intercalate (v :: ws) from rfl, spl_app _ (h w (List.mem_cons_self ..)), h1]
theorem spl_snoc (c : UInt8) (l : List UInt8) : spl c (l ++ [c]) = spl c l ++ [[]] := by
  induction l with
  | nil => simp [spl]
  | cons x r ih =>
    rw [List.cons_append, spl, spl, ih]
    split
    · rfl
    · cases hs : spl c r with
      | nil => exact absurd hs (spl_ne _ _)
      | cons p q => rfl
theorem spl_last {c d : UInt8} (h : d ≠ c) (l : List UInt8) : (spl c (l ++ [d])).getLast? ≠ some [] := by
  induction l with
  | nil => simp [spl, h]
  | cons x r ih =>
    rw [List.cons_append, spl]
    cases hs : spl c (r ++ [d]) with
    | nil => exact absurd hs (spl_ne _ _)
    | cons p q =>
      rw [hs] at ih
      split
      · rw [List.getLast?_cons_cons]; exact ih
      · cases q with
        | nil => simp
        | cons p2 q => rw [List.getLast?_cons_cons] at ih ⊢; exact ih
end Num
namespace Num
open Go Go.Lib
theorem cut_spl (s : List UInt8) : (∃ a, s = a ∧ cut s [47] = (a, [], false) ∧ spl 47 s = [a]) ∨ ∃ a b, cut s [47] = (a, b, true) ∧ spl 47 s = a :: spl 47 b ∧ s = a ++ 47 :: b ∧ ∀ x ∈ a, x ≠ 47 := by
 rcases spl_cases 47 s with h | ⟨p, r, rfl, h⟩
 ·exact .inl ⟨s, rfl, cut_none h, spl_none h⟩
 ·exact .inr ⟨p, r, cut_app r h, spl_app r h, rfl, h⟩
theorem okD_sign {c : UInt8} (hc : isD c = false) (p r : List UInt8) : okD (p ++ c :: r) = false := by
 unfold okD
 rw [List.all_append, List.all_cons, hc]; simp
theorem numF_back {q : Rat} (h1 : nDigits q.num.natAbs ≤ 60) (h2 : nDigits q.den ≤ 60) :
  numF (cut (txtF q) [47]).1 (cut (txtF q) [47]).2.1 (cut (txtF q) [47]).2.2 = (q, ((if q.den = 1 then nDigits q.num.natAbs else max (nDigits q.num.natAbs) (nDigits q.den) : Nat) : Int), 0) := by
 obtain ⟨p1, p2⟩ := pre_itxt q.num
 unfold txtF
 by_cases hd : q.den = 1
 ·rw [if_pos hd, List.append_nil, cut_none (itxt_ne47 _), if_pos hd]
  unfold numF
  simp only [p1, p2, okD_dec h1, valD_dec, zn_natAbs, decDigits_length]
  rw [if_neg (by decide), if_pos trivial]
  have : mkRat q.num 1 = q := by rw [← hd, Rat.mkRat_self]
  rw [this]
 ·rw [if_neg hd, cut_app _ (itxt_ne47 _), if_neg hd]
  unfold numF
  simp only [p1, p2, okD_dec h1, okD_dec h2, valD_dec, zn_natAbs, decDigits_length]
  rw [if_neg (by decide), if_neg (by decide), if_neg (by decide), if_neg q.den_nz, Rat.mkRat_self]
theorem nDigits_mono {m n : Nat} (h : m ≤ n) : nDigits m ≤ nDigits n := Nat.le_of_not_lt fun g => by have := nDigits_lt g; omega
theorem mkRat_le {z : Int} {d : Nat} (hd : d ≠ 0) : (mkRat z d).num.natAbs ≤ z.natAbs ∧ (mkRat z d).den ≤ d := by
 unfold mkRat
 rw [dif_neg hd, Rat.normalize_eq]
 refine ⟨?_, Nat.div_le_self _ _⟩
 show (z / ((z.natAbs.gcd d : Nat) : Int)).natAbs ≤ z.natAbs
 have hdv : ((z.natAbs.gcd d : Nat) : Int) ∣ z := Int.natAbs_dvd_natAbs.1 (by rw [Int.natAbs_natCast]; exact Nat.gcd_dvd_left _ _)
 rw [Int.natAbs_ediv_of_dvd hdv]
 exact Nat.div_le_self _ _
theorem zn_abs (b : Bool) (n : Nat) : (zn b n).natAbs = n := by unfold zn; split <;> omega
theorem numF_ok {a b : List UInt8} {m : Bool} {q : Rat} {k : Int} (h : numF a b m = (q, k, 0)) :
  nDigits q.num.natAbs ≤ 60 ∧ nDigits q.den ≤ 60 ∧ ((if q.den = 1 then nDigits q.num.natAbs else max (nDigits q.num.natAbs) (nDigits q.den) : Nat) : Int) ≤ k ∧ k ≤ 60 := by
 unfold numF at h
 simp only at h
 split at h
 ·simp at h
 rename_i h1
 have h1 : okD (trimPrefix a [45]) = true := by simpa using h1
 generalize trimPrefix a [45] = t at h h1
 simp only [okD, Bool.and_eq_true, Bool.not_eq_true', decide_eq_true_eq] at h1
 have ht := nDigits_valD h1.2.2 (by simpa using h1.1)
 have hone : nDigits 1 = 1 := nDigits_small (by decide)
 have hp := nDigits_pos (valD t)
 split at h
 ·simp only [Prod.mk.injEq] at h
  obtain ⟨rfl, rfl, _⟩ := h
  obtain ⟨g1, g2⟩ := mkRat_le (z := zn (hasPrefix a [45]) (valD t)) (d := 1) (by decide)
  rw [zn_abs] at g1
  have g3 := nDigits_mono g1
  have g4 := nDigits_mono g2
  have : (mkRat (zn (hasPrefix a [45]) (valD t)) 1).den = 1 := by have := (mkRat (zn (hasPrefix a [45]) (valD t)) 1).den_pos; omega
  rw [if_pos this]
  omega
 split at h
 ·simp at h
 rename_i h2
 have h2 : okD b = true := by simpa using h2
 simp only [okD, Bool.and_eq_true, Bool.not_eq_true', decide_eq_true_eq] at h2
 have hb := nDigits_valD h2.2.2 (by simpa using h2.1)
 split at h
 ·simp at h
 rename_i h3
 simp only [Prod.mk.injEq] at h
 obtain ⟨rfl, rfl, _⟩ := h
 obtain ⟨g1, g2⟩ := mkRat_le (z := zn (hasPrefix a [45]) (valD t)) h3
 rw [zn_abs] at g1
 have g3 := nDigits_mono g1
 have g4 := nDigits_mono g2
 split <;> omega
end Num
