/- straitlaw14: which scenes are small; the law ValidCounts, on the facts. -/
import Derived.Test.YtofplgefmjojjaaGreatDoorSgj
import Derived.Test.YtofplgefmjojjaaGreatDoorSv9
namespace Num
open Go Go.Proofs
abbrev G13 (l : List RP) : Prop := 20 < l.length ∨ 80 < gs tsz l l.length
def Sm (s : Sc) : Prop := (¬ Gr12 s ∧ s.1.length ≤ 8 ∧ s.2.1.length ≤ 8) ∧ (∀ r ∈ s.2.1, r.length ≤ 8 ∧ ¬ G13 r) ∧ ¬ G13 s.1
noncomputable def smB (s : Sc) : Bool := @decide (Sm s) (Classical.propDecidable _)
theorem smB_true {s : Sc} (h : smB s = true) : Sm s := @of_decide_eq_true _ (Classical.propDecidable _) h
theorem smB_false {s : Sc} (h : ¬ Sm s) : smB s = false := @decide_eq_false _ (Classical.propDecidable _) h
theorem smB_eq {s : Sc} {b : Bool} (h : Sm s ↔ b = true) : smB s = b := by
 cases b with
 | true => exact @decide_eq_true _ (Classical.propDecidable _) (h.2 rfl)
 | false => exact smB_false fun x => by cases h.1 x
theorem take_all {α : Type} {P : α → Prop} {l : List α} {g : Nat} {x : α} (h : l[g]? = some x) (hp : P x) (hn : ∀ y ∈ l.take g, P y) : ∀ y ∈ l.take (g + 1), P y := fun y hy => by
 rw [List.take_add_one, h] at hy
 rcases List.mem_append.1 hy with hy | hy
 ·exact hn y hy
 ·rw [List.mem_singleton.1 hy]; exact hp
theorem any_false {α : Type} {p : α → Bool} {l : List α} (h : (l.any p) = false) : ∀ x ∈ l, p x = false := fun x hx => by
 have := List.any_eq_false.1 h x hx
 simpa using this
theorem cnt_facts {s : Sc} (h : cntB s = true) : 3 ≤ s.1.length ∧ s.1.length ≤ 6 ∧ s.2.1.length ≤ 4 ∧ (∀ r ∈ s.2.1, 3 ≤ r.length) ∧ tris s ≤ 6 ∧ s.2.2.length ≤ 8 := by
 unfold cntB inB at h
 simp only [Bool.and_eq_true, decide_eq_true_iff, Bool.not_eq_true'] at h
 obtain ⟨⟨⟨⟨⟨h1, h2⟩, h3⟩, h4⟩, h5⟩, h6⟩ := h
 refine ⟨h1, by omega, h3, fun r hr => ?_, h5, h6⟩
 have := any_false h4 r hr
 simp only [Bool.not_eq_false', Bool.and_eq_true, decide_eq_true_iff] at this
 exact this.1
theorem code_four {s : Sc} (h : cntB s = false) : codeF s = 4 := by unfold codeF; rw [if_pos (show clB s 0 = false from h)]
end Num
namespace Go.Proofs
open Go Go.Sv Num
variable {G : Imm}
theorem vSmall_spec {s : Sc} : PSpec Tryz.prog G 28 [aggS (scC s)] (boolS (smB s)) := by
 refine zs Tryz.func28 ?_;refine zr ?_;(iterate 2 refine zz ?_);refine zzn ?_;refine T_seq ?_;refine T_seqQ (K := fun S1 => ∃ w : Bool, (w = true ↔ ¬ (¬ Gr12 s ∧ s.1.length ≤ 8 ∧ s.2.1.length ≤ 8)) ∧ Ent S1 ⟨44, [(17, boolS w), (1, ptrS (scC s))], [], [], (0, false)⟩) ?_ ?_
 ·refine T_region ?_;refine zo ((show OpOK _ _ _ _ _ (aggS (scC s)) from ok_load_agg rfl rfl rfl rfl)) ?_
  refine Run.oneB (ok_call rfl rfl great12_spec) rfl rfl rfl (fun h1_1 => ?_) (fun h1_1 => ?_)
  ·refine zz ?_;(iterate 4 refine zq ?_);(iterate 2 refine zz ?_);(iterate 4 refine zq ?_);refine zz ?_;refine zzn ?_
   exact ⟨true, ⟨fun _ h => h.1 (of_decide_eq_true h1_1), fun _ => rfl⟩, ent_g zk⟩
  ·refine zz ?_;(iterate 4 refine zz ?_)
   refine Run.oneB (ok_pick rfl rfl rfl) rfl rfl rfl (fun h1_7 => ?_) (fun h1_7 => ?_)
   ·have k1_7 := of_decide_eq_true h1_7
    refine zz ?_;(iterate 4 refine zq ?_);refine zz ?_;refine zzn ?_
    exact ⟨true, ⟨fun _ h => by omega, fun _ => rfl⟩, ent_g zk⟩
   ·have k1_7 := of_decide_eq_false h1_7
    (iterate 6 refine zz ?_);refine zzn ?_
    exact ⟨_, ⟨fun h h2 => by have := of_decide_eq_true h; omega, fun h => decide_eq_true (Classical.byContradiction fun h2 => h ⟨of_decide_eq_false h1_1, by omega, by omega⟩)⟩, ent_g (subG_cons rfl (subG_cons rfl (trivial)))⟩
 ·rintro S1 ⟨w, hw, hS1⟩
  refine T_pre hS1 ?_;refine zzc (fun h17 => ?_) fun h17 => ?_
  ·have hno : ¬ Sm s := fun h => hw.1 h17 h.1
   refine zr ?_;refine zz ?_;refine zzn ?_;refine T_ret ?_
   exact ⟨_, [], .one (.tmp rfl), List.nil_sublist _, congrArg boolS (smB_false hno).symm, rfl⟩
  ·have hyes : ¬ Gr12 s ∧ s.1.length ≤ 8 ∧ s.2.1.length ≤ 8 := Classical.byContradiction fun h => by rw [hw.2 h] at h17; cases h17
   refine T_skip ?_;refine T_seq ?_;refine zr ?_;refine zz ?_;refine zzn ?_;refine T_block ?_
   refine T_loop (γ := Nat) (fun g => ⟨_, [(3, intS .i64 (g : Nat)), (1, ptrS (scC s))], [], [], (0, false)⟩) (fun g => g ≤ s.2.1.length ∧ ∀ r ∈ s.2.1.take g, r.length ≤ 8 ∧ ¬ G13 r) (fun g => s.2.1.length - g) 0 ⟨Nat.zero_le _, fun r hr => by simp at hr⟩ (ent_g (subG_cons rfl (subG_cons rfl (trivial)))) ?_
   rintro g ⟨hg, hn⟩
   refine T_seq ?_;refine zr ?_;(iterate 5 refine zz ?_);refine zzn ?_;refine zzc (fun h22 => ?_) fun h22 => ?_
   ·have k22 := of_decide_eq_true h22
    obtain ⟨r, hr⟩ : ∃ r, s.2.1[g]? = some r := ⟨_, List.getElem?_eq_getElem (by omega)⟩
    refine T_skip ?_;refine T_seq ?_;refine T_block ?_;refine T_seqQ (K := fun S1 => ∃ w : Bool, (w = true ↔ ¬ (r.length ≤ 8 ∧ ¬ G13 r)) ∧ Ent S1 ⟨44, [(39, boolS w), (3, intS .i64 (g : Nat)), (1, ptrS (scC s))], [], [], (0, false)⟩) ?_ ?_
    ·refine T_region ?_;(iterate 3 refine zz ?_);refine zo (ok_indexAddr rfl rfl rfl (by omega) (y := r) (hr)) ?_;(iterate 2 refine zz ?_)
     refine Run.oneB (ok_cmp rfl rfl rfl rfl) rfl rfl rfl (fun h6_6 => ?_) (fun h6_6 => ?_)
     ·have k6_6 := of_decide_eq_true h6_6
      refine zz ?_;(iterate 6 refine zq ?_);refine zz ?_;refine zzn ?_
      exact ⟨true, ⟨fun _ h => by omega, fun _ => rfl⟩, ent_g zk⟩
     ·have k6_6 := of_decide_eq_false h6_6
      (iterate 4 refine zz ?_);refine zo (ok_indexAddr rfl rfl rfl (by omega) (y := r) (hr)) ?_;refine zz ?_;refine zf great13_spec ?_;refine zz ?_;refine zzn ?_
      exact ⟨_, ⟨fun h h2 => h2.2 (of_decide_eq_true h), fun h => decide_eq_true (Classical.byContradiction fun h2 => h ⟨by omega, h2⟩)⟩, ent_g zk⟩
    ·rintro S1 ⟨w2, hw2, hS1⟩
     refine T_pre hS1 ?_;refine zzc (fun h39 => ?_) fun h39 => ?_
     ·refine zr ?_;refine zz ?_;refine zzn ?_;refine T_ret ?_
      exact ⟨_, [], .one (.tmp rfl), List.nil_sublist _, congrArg boolS (smB_false fun h => hw2.1 h39 (h.2.1 _ (List.mem_of_getElem? hr))).symm, rfl⟩
     ·have hok : r.length ≤ 8 ∧ ¬ G13 r := Classical.byContradiction fun h => by rw [hw2.2 h] at h39; cases h39
      refine T_skip ?_;refine T_region ?_;refine zz ?_;refine za ((g + 1 : Nat) : Int) ?_;refine zz ?_;refine zzn ?_
      exact ⟨g + 1, ⟨by omega, take_all hr hok hn⟩, by omega, ent_g zk⟩
   ·have k22 := of_decide_eq_false h22
    obtain rfl : g = s.2.1.length := by omega
    rw [List.take_length] at hn
    refine T_exit ?_;refine zr ?_;(iterate 2 refine zz ?_);refine zf great13_spec ?_;(iterate 2 refine zz ?_);refine zzn ?_;refine T_ret ?_
    exact ⟨_, [], .one (.tmp rfl), List.nil_sublist _, congrArg boolS (smB_eq (by rw [Bool.not_eq_true', decide_eq_false_iff_not]; exact ⟨fun h => h.2.2, fun h => ⟨hyes, hn, h⟩⟩)).symm, rfl⟩
end Go.Proofs
