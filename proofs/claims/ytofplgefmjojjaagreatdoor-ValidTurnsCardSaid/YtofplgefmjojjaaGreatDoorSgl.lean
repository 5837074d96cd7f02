/- straitlaw14: rows that are turned about. -/
import Derived.Test.YtofplgefmjojjaaGreatDoorSgk
namespace Num
open Go Go.Proofs
def swL {α : Type} [Inhabited α] (l : List α) (g : Nat) : List α := (List.range l.length).map fun i => if i < g ∨ l.length ≤ i + g then l.getD (l.length - 1 - i) default else l.getD i default
theorem swL_length {α : Type} [Inhabited α] (l : List α) (g : Nat) : (swL l g).length = l.length := by simp [swL]
theorem swL_get {α : Type} [Inhabited α] {l : List α} {g i : Nat} (h : i < l.length) : (swL l g)[i]? = some (if i < g ∨ l.length ≤ i + g then l.getD (l.length - 1 - i) default else l.getD i default) := by simp [swL, h]
theorem swL_zero {α : Type} [Inhabited α] (l : List α) : swL l 0 = l := by
 refine List.ext_getElem? fun i => ?_
 by_cases h : i < l.length
 ·rw [swL_get h, if_neg (by omega)]; simp [h]
 ·rw [List.getElem?_eq_none (by rw [swL_length]; omega), List.getElem?_eq_none (by omega)]
theorem swL_all {α : Type} [Inhabited α] (l : List α) : swL l (l.length / 2) = l.reverse := by
 refine List.ext_getElem? fun i => ?_
 by_cases h : i < l.length
 ·rw [swL_get h, List.getElem?_reverse h]
  by_cases h2 : i < l.length / 2 ∨ l.length ≤ i + l.length / 2
  ·rw [if_pos h2]; simp [show l.length - 1 - i < l.length by omega]
  ·rw [if_neg h2, show l.length - 1 - i = i by omega]; simp [h]
 ·rw [List.getElem?_eq_none (by rw [swL_length]; omega), List.getElem?_eq_none (by rw [List.length_reverse]; omega)]
theorem swL_step {α : Type} [Inhabited α] {l : List α} {g : Nat} (h : g < l.length / 2) : ((swL l g).set g ((swL l g).getD (l.length - 1 - g) default)).set (l.length - 1 - g) ((swL l g).getD g default) = swL l (g + 1) := by
 have e1 : (swL l g).getD (l.length - 1 - g) default = l.getD (l.length - 1 - g) default := by
  rw [List.getD_eq_getElem?_getD, swL_get (by omega), if_neg (by omega)]; rfl
 have e2 : (swL l g).getD g default = l.getD g default := by
  rw [List.getD_eq_getElem?_getD, swL_get (by omega), if_neg (by omega)]; rfl
 rw [e1, e2]
 refine List.ext_getElem? fun i => ?_
 by_cases hi : i < l.length
 ·rw [swL_get hi, List.getElem?_set]
  by_cases a : l.length - 1 - g = i
  ·rw [if_pos a, if_pos (by rw [List.length_set, swL_length]; omega), if_pos (by omega)]
   congr 1; congr 1; omega
  ·rw [if_neg a, List.getElem?_set]
   by_cases b : g = i
   ·rw [if_pos b, if_pos (by rw [swL_length]; omega), if_pos (by omega)]
    congr 1; congr 1; omega
   ·rw [if_neg b, swL_get hi]
    by_cases c : i < g ∨ l.length ≤ i + g
    ·rw [if_pos c, if_pos (by omega)]
    ·rw [if_neg c, if_neg (by omega)]
 ·rw [List.getElem?_eq_none (by rw [List.length_set, List.length_set, swL_length]; omega), List.getElem?_eq_none (by rw [swL_length]; omega)]
def turnF {α : Type} (l : List α) (at0 : Int) (back : Bool) : List α :=
 let K := ((at0.tmod (l.length : Nat) + (l.length : Nat)) % (l.length : Nat)).toNat
 if back then (l.drop K ++ l.take K).reverse else l.drop K ++ l.take K
end Num
namespace Go.Proofs
open Go Go.Sv Num
variable {G : Imm}
theorem setAll_app (a : List SV) (k : Nat) : ∀ (ds b : List SV), setAll (a ++ b) (a.length + k) ds = a ++ setAll b k ds := fun ds => by
  induction ds generalizing k with
  | nil => intro b; rfl
  | cons d ds ih =>
    intro b
    show setAll ((a ++ b).set (a.length + k) d) (a.length + k + 1) ds = a ++ setAll (b.set k d) (k + 1) ds
    rw [List.set_append_right _ _ (by omega), show a.length + k - a.length = k by omega, ← ih (k + 1)]
    rfl
theorem flat_setP {x : RawP} : ∀ {l : List RawP} {i : Nat}, i < l.length → setAll (l.flatMap pc) (i * 6) (pc x) = (l.set i x).flatMap pc
  | [], i, h => by simp at h
  | y :: l, 0, _ => rfl
  | y :: l, i + 1, h => by
    have h1 := flat_setP (x := x) (l := l) (i := i) (by simpa using h)
    rw [List.set_cons_succ, List.flatMap_cons, List.flatMap_cons, ← h1, show (i + 1) * 6 = (pc y).length + i * 6 by show _ = 6 + i * 6; omega]
    exact setAll_app (pc y) (i * 6) (pc x) (l.flatMap pc)
theorem flat_getP : ∀ {l : List RawP} {i : Nat}, i < l.length → ((l.flatMap pc).drop (i * 6)).take 6 = pc (l.getD i default)
  | [], i, h => by simp at h
  | y :: l, 0, _ => rfl
  | y :: l, i + 1, h => by
    have h1 := flat_getP (l := l) (i := i) (by simpa using h)
    rw [List.flatMap_cons, show (i + 1) * 6 = (pc y).length + i * 6 by show _ = 6 + i * 6; omega, show (pc y ++ l.flatMap pc).drop ((pc y).length + i * 6) = (l.flatMap pc).drop (i * 6) by rw [← List.drop_drop, List.drop_left]]
    exact h1
theorem turned_spec {xs : List RawP} (hn : xs.length ≤ 100) {at0 : Int} {back : Bool} : PSpec Tryz.prog G 41 [slS 6 pc xs, intS .i64 at0, boolS back] (slS 6 pc (turnF xs at0 back)) := by
 refine fn_spec Tryz.func41 rfl rfl rfl ?_
 refine T_regionS ?_
 refine Run.one (ok_assign rfl rfl) rfl rfl rfl ?_
 refine Run.nil ?_
 refine T_seq ?_
 refine T_regionS ?_
 refine Run.one (ok_move rfl rfl) rfl rfl rfl ?_
 refine Run.one (ok_len rfl rfl) rfl rfl rfl ?_
 refine Run.one (ok_cmp rfl rfl rfl rfl) rfl rfl rfl ?_
 refine Run.nil ?_
 refine T_cond rfl rfl (fun h12 => ?_) (fun h12 => ?_)
 ·have k12 := beq_iff_eq.1 h12
  have h0 : xs.length = 0 := by omega
  have hnil : xs = [] := List.eq_nil_of_length_eq_zero h0
  refine T_regionS ?_
  refine Run.one (ok_move rfl rfl) rfl rfl rfl ?_
  refine Run.one (ok_assign rfl rfl) rfl rfl rfl ?_
  refine Run.nil ?_
  refine T_ret ?_
  exact ⟨_, [], .one (.tmp rfl), List.nil_sublist _, by subst hnil; unfold turnF; cases back <;> simp, rfl⟩
 ·have k12 := beq_eq_false_iff_ne.1 h12
  have h0 : 0 < xs.length := by omega
  obtain ⟨K, hKn, hKe, hr1, hr2⟩ := ring0 (z := at0) (n := xs.length) h0
  have htf : turnF xs at0 back = if back then (xs.drop K ++ xs.take K).reverse else xs.drop K ++ xs.take K := by unfold turnF; simp only [hKe, Int.toNat_natCast]
  obtain ⟨m0, hm0⟩ : ∃ m0, m0 = at0.tmod (xs.length : Nat) := ⟨_, rfl⟩
  rw [← hm0] at hKe hr1 hr2
  obtain ⟨A, hA⟩ : ∃ A, A = xs.drop K := ⟨_, rfl⟩
  obtain ⟨B, hB⟩ : ∃ B, B = xs.take K := ⟨_, rfl⟩
  have hAl : A.length = xs.length - K := by rw [hA, List.length_drop]
  have hBl : B.length = K := by rw [hB, List.length_take]; omega
  rw [← hA, ← hB] at htf
  obtain ⟨R, hR⟩ : ∃ R, R = A ++ B := ⟨_, rfl⟩
  have hRl : R.length = xs.length := by rw [hR, List.length_append]; omega
  rw [← hR] at htf
  refine T_skip ?_
  refine T_regionS ?_
  iterate 2 refine Run.one (ok_move rfl rfl) rfl rfl rfl ?_
  refine Run.one (ok_len rfl rfl) rfl rfl rfl ?_
  refine Run.one ((ok_rem0 rfl rfl rfl (by omega)).sub (int_eq hm0.symm)) rfl rfl rfl ?_
  refine Run.one (ok_move rfl rfl) rfl rfl rfl ?_
  refine Run.one (ok_len rfl rfl) rfl rfl rfl ?_
  refine Run.one (ok_ari (z := m0 + (xs.length : Int)) rfl rfl rfl (congrArg some (by omega)) (wrap_i64 (by omega) (by omega))) rfl rfl rfl ?_
  refine Run.one (ok_move rfl rfl) rfl rfl rfl ?_
  refine Run.one (ok_len rfl rfl) rfl rfl rfl ?_
  refine Run.one ((ok_rem rfl rfl rfl (by omega) (by omega)).sub (int_eq hKe)) rfl rfl rfl ?_
  refine Run.one (ok_assign rfl rfl) rfl rfl rfl ?_
  refine Run.nil ?_
  refine T_drawMPS [1, 2, 3, 5, 6, 7, 0, 4, 8, 9] 9 [6, 7, 8] _ (by kernel_rfl) (by kernel_rfl) .slnil ?_
  iterate 2 refine RunE.lat (ok_move rfl rfl) rfl rfl rfl ?_
  refine RunE.lat ((ok_slice (lo := K) (hi := xs.length) (m := 0) rfl rfl (.inr ⟨_, _, rfl, rfl⟩) (.inl ⟨rfl, rfl, rfl⟩) (.inl rfl) (by omega) (by omega)).sub (show ∀ I v, (slS 6 pc ((xs.take xs.length).drop K)).den I v → (slS 6 pc A).den I v from fun I v h => by rw [List.take_length, ← hA] at h; exact h)) rfl rfl rfl ?_
  iterate 2 refine RunE.lat (ok_move rfl rfl) rfl rfl rfl ?_
  refine RunE.lat ((ok_slice (lo := 0) (hi := K) (m := 0) rfl rfl (.inl ⟨rfl, rfl⟩) (.inr ⟨_, _, rfl, rfl⟩) (.inl rfl) (by omega) (by omega)).sub (show ∀ I v, (slS 6 pc ((xs.take K).drop 0)).den I v → (slS 6 pc B).den I v from fun I v h => by rw [List.drop_zero, ← hB] at h; exact h)) rfl rfl rfl ?_
  refine RunE.nil ⟨_, rfl, ?_⟩
  refine .loc0 (l_buildRow rfl rfl (by decide) rfl (.inl rfl) rfl rfl) rfl rfl rfl ?_
  rintro s1 H1 ⟨b24, hb24, rfl, rfl⟩
  refine ⟨(.cons _ .slnil), ?_⟩
  refine RunE.nil ⟨_, rfl, ?_⟩
  refine EffM.append 0 rfl rfl rfl rfl rfl rfl rfl hb24 (rfl) (fun z hz => rfl) (by unfold big; simp; omega) (by unfold big; simp; omega) fun q28 hq28 => ⟨(.cons _ .slnil), ?_⟩
  refine RunE.nil ⟨_, rfl, ?_⟩
  refine EffM.append 0 rfl rfl rfl rfl rfl rfl rfl hq28 (by rw [Nat.zero_add]; exact flatPc A) (fun z hz => rfl) (by unfold big; simp; omega) (by unfold big; simp; omega) fun q32 hq32 => ⟨(.cons _ .slnil), ?_⟩
  refine RunE.nil ?_
  refine Run.one (ok_assign rfl rfl) rfl rfl rfl ?_
  refine Run.nil ?_
  refine T_seq ?_
  have hlen : 0 + A.length + B.length = xs.length := by omega
  rw [hlen] at hq32 ⊢
  have hcs : [] ++ A.flatMap pc ++ B.flatMap pc = (swL R 0).flatMap pc := by rw [swL_zero, hR, List.flatMap_append]; rfl
  obtain ⟨⟨bb, cc⟩, rfl⟩ : ∃ q, q32 = some q := by
   cases q32 with
   | none => exact absurd (show xs.length = 0 from hq32) (by omega)
   | some q => exact ⟨q, rfl⟩
  refine T_regionS ?_
  refine Run.one (ok_assign rfl rfl) rfl rfl rfl ?_
  refine Run.nil ?_
  refine T_block ?_
  refine T_loop (γ := Nat) (fun g => ⟨66, [(9, intS .i64 (g : Nat)), (8, eqS (rowV (some (bb, cc)) xs.length)), (2, boolS back)], [rowE (some (bb, cc)) 30 6 xs.length ((swL R g).flatMap pc)], [], (0, false)⟩) (fun g => g ≤ xs.length / 2 ∧ (back = false → g = 0)) (fun g => xs.length - g) 0 ⟨Nat.zero_le _, fun _ => rfl⟩ (ent_h (subG_cons rfl (subG_cons rfl (subG_cons rfl (trivial)))) (by rw [← hcs]; rfl)) ?_
  rintro g ⟨hg, hbg⟩
  refine T_seq ?_
  refine T_regionS ?_
  refine Run.oneB (ok_move rfl rfl) rfl rfl rfl (fun h6_0 => ?_) (fun h6_0 => ?_)
  ·refine Run.one (ok_move rfl rfl) rfl rfl rfl ?_
   iterate 2 refine Run.one (ok_move rfl rfl) (gB rfl rfl rfl rfl) rfl rfl ?_
   refine Run.one (ok_len_row rfl rfl hq32) (gB rfl rfl rfl rfl) rfl rfl ?_
   refine Run.one ((ok_quo rfl rfl rfl (by omega) (by omega) (wrap_i64 (by omega) (by omega))).sub (int_eq (n := ((xs.length / 2 : Nat) : Int)) (by omega))) (gB rfl rfl rfl rfl) rfl rfl ?_
   refine Run.one (ok_cmp rfl rfl rfl rfl) (gB rfl rfl rfl rfl) rfl rfl ?_
   refine Run.one (ok_pick rfl rfl rfl) rfl rfl rfl ?_
   refine Run.nil ?_
   refine T_cond rfl rfl (fun h40 => ?_) (fun h40 => ?_)
   ·have k40 := of_decide_eq_true h40
    have hst := swL_step (l := R) (g := g) (by rw [hRl]; omega)
    rw [hRl] at hst
    refine T_skip ?_
    refine T_seq ?_
    refine T_block ?_
    refine T_drawM 24 [21, 23] _ (by kernel_rfl) (.cons _ .slnil) ?_
    iterate 2 refine RunE.one (ok_move rfl rfl) rfl rfl rfl (by kernel_rfl) ?_
    iterate 2 refine RunE.lat (ok_move rfl rfl) rfl rfl rfl ?_
    refine RunE.lat (ok_len_row rfl rfl hq32) rfl rfl rfl ?_
    refine RunE.lat (ok_ari (z := ((xs.length - 1 : Nat) : Int)) rfl rfl rfl (congrArg some (by omega)) (wrap_i64 (by omega) (by omega))) rfl rfl rfl ?_
    refine RunE.lat (ok_move rfl rfl) rfl rfl rfl ?_
    refine RunE.lat (ok_ari (z := ((xs.length - 1 - g : Nat) : Int)) rfl rfl rfl (congrArg some (by omega)) (wrap_i64 (by omega) (by omega))) rfl rfl rfl ?_
    iterate 2 refine RunE.one (ok_move rfl rfl) rfl rfl rfl (by kernel_rfl) ?_
    refine RunE.one (ok_len_row rfl rfl hq32) rfl rfl rfl (by kernel_rfl) ?_
    refine RunE.one (ok_ari (z := ((xs.length - 1 : Nat) : Int)) rfl rfl rfl (congrArg some (by omega)) (wrap_i64 (by omega) (by omega))) rfl rfl rfl (by kernel_rfl) ?_
    refine RunE.one (ok_move rfl rfl) rfl rfl rfl (by kernel_rfl) ?_
    refine RunE.one (ok_ari (z := ((xs.length - 1 - g : Nat) : Int)) rfl rfl rfl (congrArg some (by omega)) (wrap_i64 (by omega) (by omega))) rfl rfl rfl (by kernel_rfl) ?_
    refine RunE.one ((ok_indexAddr_eq (i := ((xs.length - 1 - g : Nat) : Int)) (q := (xs.length - 1 - g) * 6) rfl rfl rfl (by omega) (by omega) (by rw [Int.toNat_natCast, Nat.zero_add]))) rfl rfl rfl (by kernel_rfl) ?_
    refine RunE.one ((show OpOK _ _ _ _ _ (aggS (pc ((swL R g).getD (xs.length - 1 - g) default))) from ok_load_own_agg 0 rfl rfl rfl (flat_getP (by rw [swL_length]; omega)) rfl)) rfl rfl rfl (by kernel_rfl) ?_
    iterate 2 refine RunE.one (ok_move rfl rfl) rfl rfl rfl (by kernel_rfl) ?_
    refine RunE.one ((ok_indexAddr_eq (i := ((g : Nat) : Int)) (q := (g) * 6) rfl rfl rfl (by omega) (by omega) (by rw [Int.toNat_natCast, Nat.zero_add]))) rfl rfl rfl (by kernel_rfl) ?_
    refine RunE.one ((show OpOK _ _ _ _ _ (aggS (pc ((swL R g).getD (g) default))) from ok_load_own_agg 0 rfl rfl rfl (flat_getP (by rw [swL_length]; omega)) rfl)) rfl rfl rfl (by kernel_rfl) ?_
    refine RunE.one ((ok_indexAddr_eq (i := ((g : Nat) : Int)) (q := (g) * 6) rfl rfl rfl (by omega) (by omega) (by rw [Int.toNat_natCast, Nat.zero_add]))) rfl rfl rfl (by kernel_rfl) ?_
    refine RunE.nil ⟨_, rfl, ?_⟩
    refine .loc1n 0 (l_store rfl rfl rfl rfl (by rw [flatPc, swL_length]; show (g) * 6 + 6 ≤ _; omega)) rfl rfl rfl ?_
    rintro s1 H1 ⟨rfl, rfl⟩
    rw [flat_setP (by rw [swL_length]; omega)]
    refine ⟨(.cons _ .slnil), ?_⟩
    refine RunE.one ((ok_indexAddr_eq (i := ((xs.length - 1 - g : Nat) : Int)) (q := (xs.length - 1 - g) * 6) rfl rfl rfl (by omega) (by omega) (by rw [Int.toNat_natCast, Nat.zero_add]))) rfl rfl rfl (by kernel_rfl) ?_
    refine RunE.nil ⟨_, rfl, ?_⟩
    refine .loc1n 0 (l_store rfl rfl rfl rfl (by rw [flatPc, List.length_set, swL_length]; show (xs.length - 1 - g) * 6 + 6 ≤ _; omega)) rfl rfl rfl ?_
    rintro s1 H1 ⟨rfl, rfl⟩
    rw [flat_setP (by rw [List.length_set, swL_length]; omega)]
    refine ⟨(.cons _ .slnil), ?_⟩
    refine RunE.nil ?_
    refine Run.nil ?_
    refine T_region ?_
    refine Run.one (ok_move rfl rfl) rfl rfl rfl ?_
    refine Run.one (ok_ari (z := ((g + 1 : Nat) : Int)) rfl rfl rfl (congrArg some (by omega)) (wrap_i64 (by omega) (by omega))) rfl rfl rfl ?_
    refine Run.one (ok_assign rfl rfl) rfl rfl rfl ?_
    refine Run.nil ?_
    exact ⟨g + 1, ⟨by omega, fun h => by rw [h] at h6_0; cases h6_0⟩, by omega, ent_h (subG_cons rfl (subG_cons rfl (subG_cons rfl (trivial)))) (by rw [hst]; rfl)⟩
   ·have k40 := of_decide_eq_false h40
    refine T_exit ?_
    refine T_ghost (ghost_sl 0 8 rfl rfl hq32 (l := swL R g) (f := pc) (by rw [swL_length]; exact hRl) rfl (fun _ _ => rfl) (by unfold big; omega)) ?_
    refine T_regionS ?_
    refine Run.one (ok_move rfl rfl) rfl rfl rfl ?_
    refine Run.one (ok_assign rfl rfl) rfl rfl rfl ?_
    refine Run.nil ?_
    refine T_ret ?_
    exact ⟨_, [], .one (.tmp rfl), List.nil_sublist _, by rw [htf, if_pos h6_0, ← swL_all, hRl, show xs.length / 2 = g by omega], rfl⟩
  ·refine Run.one (ok_move rfl rfl) rfl rfl rfl ?_
   iterate 5 refine Run.no (gB rfl rfl rfl rfl) rfl rfl ?_
   refine Run.one (ok_pick rfl rfl rfl) rfl rfl rfl ?_
   refine Run.nil ?_
   refine T_condF rfl rfl ?_
   refine T_exit ?_
   refine T_ghost (ghost_sl 0 8 rfl rfl hq32 (l := swL R g) (f := pc) (by rw [swL_length]; exact hRl) rfl (fun _ _ => rfl) (by unfold big; omega)) ?_
   refine T_regionS ?_
   refine Run.one (ok_move rfl rfl) rfl rfl rfl ?_
   refine Run.one (ok_assign rfl rfl) rfl rfl rfl ?_
   refine Run.nil ?_
   refine T_ret ?_
   exact ⟨_, [], .one (.tmp rfl), List.nil_sublist _, by rw [htf, if_neg (by rw [h6_0]; decide), hbg h6_0, swL_zero], rfl⟩
end Go.Proofs
