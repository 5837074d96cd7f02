/- straitlaw14: which scenes are small; the law ValidCounts, on the facts. -/
import Derived.Test.YtofplgefmjojjaaGreatDoorSgj
import Derived.Test.YtofplgefmjojjaaGreatDoorSv9
namespace Num
open Go Go.Proofs
abbrev G13 (l : List RP) : Prop := 20 < l.length ∨ 80 < gs tsz l l.length
def Sm (s : Sc) : Prop := (¬ Gr12 s ∧ s.1.length ≤ 8 ∧ s.2.1.length ≤ 8) ∧ (∀ r ∈ s.2.1, r.length ≤ 8 ∧ ¬ G13 r) ∧ ¬ G13 s.1
noncomputable def smB (s : Sc) : Bool := @decide (Sm s) (Classical.propDecidable _)
theorem smB_true {s : Sc} (h : smB s = true) : Sm s := @of_decide_eq_true _ (Classical.propDecidable _) h
theorem smB_false {s : Sc} (h : ¬ Sm s) : smB s = false := @decide_eq_false _ (Classical.propDecidable _) h
theorem smB_eq {s : Sc} {b : Bool} (h : Sm s ↔ b = true) : smB s = b := by
  cases b with
  | true => exact @decide_eq_true _ (Classical.propDecidable _) (h.2 rfl)
  | false => exact smB_false fun x => by cases h.1 x
theorem take_all {α : Type} {P : α → Prop} {l : List α} {g : Nat} {x : α} (h : l[g]? = some x) (hp : P x) (hn : ∀ y ∈ l.take g, P y) : ∀ y ∈ l.take (g + 1), P y := fun y hy => by
  rw [List.take_add_one, h] at hy
  rcases List.mem_append.1 hy with hy | hy
  · exact hn y hy
  · rw [List.mem_singleton.1 hy]; exact hp
theorem any_false {α : Type} {p : α → Bool} {l : List α} (h : (l.any p) = false) : ∀ x ∈ l, p x = false := fun x hx => by
  have := List.any_eq_false.1 h x hx
  simpa using this
theorem cnt_facts {s : Sc} (h : cntB s = true) : 3 ≤ s.1.length ∧ s.1.length ≤ 6 ∧ s.2.1.length ≤ 4 ∧ (∀ r ∈ s.2.1, 3 ≤ r.length) ∧ tris s ≤ 6 ∧ s.2.2.length ≤ 8 := by
  unfold cntB inB at h
  simp only [Bool.and_eq_true, decide_eq_true_iff, Bool.not_eq_true'] at h
  obtain ⟨⟨⟨⟨⟨h1, h2⟩, h3⟩, h4⟩, h5⟩, h6⟩ := h
  refine ⟨h1, by omega, h3, fun r hr => ?_, h5, h6⟩
  have := any_false h4 r hr
  simp only [Bool.not_eq_false', Bool.and_eq_true, decide_eq_true_iff] at this
  exact this.1
theorem code_cnt {s : Sc} (h : codeF s = 0) : cntB s = true := by
  unfold codeF at h
  cases e : cntB s with
  | true => rfl
  | false => rw [if_pos (show clB s 0 = false from e)] at h; cases h
theorem code_four {s : Sc} (h : cntB s = false) : codeF s = 4 := by unfold codeF; rw [if_pos (show clB s 0 = false from h)]
theorem cnt_rob {s : Sc} (h : 6 < s.1.length) : cntB s = false := by
  unfold cntB inB
  rw [show decide ((s.1.length : Int) ≤ 6) = false from decide_eq_false (by omega)]; simp
theorem cnt_obs {s : Sc} (h : 4 < s.2.1.length) : cntB s = false := by
  unfold cntB
  rw [show decide (s.2.1.length ≤ 4) = false from decide_eq_false (by omega)]; simp
theorem cnt_que {s : Sc} (h : 8 < s.2.2.length) : cntB s = false := by
  unfold cntB
  rw [show decide (s.2.2.length ≤ 8) = false from decide_eq_false (by omega)]; simp
end Num
namespace Go.Proofs
open Go Go.Sv Num
variable {G : Imm}
theorem nilQ_den (I : Imm) (v : Value) (h : (aggS [eqS (.bool false), eqS (.slice none 0 0), eqS (.slice none 0 0), eqS (.bool false), eqS (.slice none 0 0), eqS (.slice none 0 0), eqS (.bool false), eqS (.slice none 0 0), eqS (.slice none 0 0), eqS (.bool false), eqS (.slice none 0 0), eqS (.slice none 0 0)]).den I v) : (aggS (queC default)).den I v :=
  agg_sub (cs := [eqS (.bool false), eqS (.slice none 0 0), eqS (.slice none 0 0), eqS (.bool false), eqS (.slice none 0 0), eqS (.slice none 0 0), eqS (.bool false), eqS (.slice none 0 0), eqS (.slice none 0 0), eqS (.bool false), eqS (.slice none 0 0), eqS (.slice none 0 0)]) (ds := queC default) ⟨fun _ _ h => h, nil_nat rfl, nil_nat rfl, fun _ _ h => h, nil_nat rfl, nil_nat rfl, fun _ _ h => h, nil_nat rfl, nil_nat rfl, fun _ _ h => h, nil_nat rfl, nil_nat rfl, trivial⟩ I v h
theorem flatQue : ∀ l : List (RP × RP), (l.flatMap queC).length = l.length * 12
  | [] => rfl
  | x :: l => by rw [List.flatMap_cons, List.length_append, flatQue l]; show 12 + l.length * 12 = (l.length + 1) * 12; omega
theorem flatRow : ∀ l : List (List RP), (l.flatMap rowC).length = l.length * 1
  | [] => rfl
  | x :: l => by rw [List.flatMap_cons, List.length_append, flatRow l]; show 1 + l.length * 1 = (l.length + 1) * 1; omega
theorem vSmall_spec {s : Sc} : PSpec Tryz.prog G 28 [aggS (scC s)] (boolS (smB s)) := by
  refine fn_spec Tryz.func28 rfl rfl rfl ?_
  refine T_regionS ?_
  refine Run.one (ok_box rfl rfl) rfl rfl rfl ?_
  refine Run.one (ok_assign rfl rfl) rfl rfl rfl ?_
  refine Run.nil ?_
  refine T_seq ?_
  refine T_seqQ (K := fun S1 => ∃ w : Bool, (w = true ↔ ¬ (¬ Gr12 s ∧ s.1.length ≤ 8 ∧ s.2.1.length ≤ 8)) ∧ Ent S1 ⟨44, [(17, boolS w), (1, ptrS (scC s))], [], [], (0, false)⟩) ?_ ?_
  · refine T_region ?_
    refine Run.one ((show OpOK _ _ _ _ _ (aggS (scC s)) from ok_load_agg rfl rfl rfl rfl)) rfl rfl rfl ?_
    refine Run.oneB (ok_call rfl rfl great12_spec) rfl rfl rfl (fun h1_1 => ?_) (fun h1_1 => ?_)
    · refine Run.one (ok_move rfl rfl) rfl rfl rfl ?_
      iterate 4 refine Run.no (gB rfl rfl rfl rfl) rfl rfl ?_
      refine Run.one (ok_pick rfl rfl rfl) rfl rfl rfl ?_
      refine Run.one (ok_move rfl rfl) rfl rfl rfl ?_
      iterate 4 refine Run.no (gB rfl rfl rfl rfl) rfl rfl ?_
      refine Run.one (ok_pick rfl rfl rfl) rfl rfl rfl ?_
      refine Run.nil ?_
      exact ⟨true, ⟨fun _ h => h.1 (of_decide_eq_true h1_1), fun _ => rfl⟩, ent_g (subG_cons rfl (subG_cons rfl (trivial)))⟩
    · refine Run.one (ok_move rfl rfl) rfl rfl rfl ?_
      refine Run.one (ok_fieldAddr rfl rfl rfl) (gB rfl rfl rfl rfl) rfl rfl ?_
      refine Run.one (ok_load rfl rfl) (gB rfl rfl rfl rfl) rfl rfl ?_
      refine Run.one (ok_len rfl rfl) (gB rfl rfl rfl rfl) rfl rfl ?_
      refine Run.one (ok_cmp rfl rfl rfl rfl) (gB rfl rfl rfl rfl) rfl rfl ?_
      refine Run.oneB (ok_pick rfl rfl rfl) rfl rfl rfl (fun h1_7 => ?_) (fun h1_7 => ?_)
      · have k1_7 := of_decide_eq_true h1_7
        refine Run.one (ok_move rfl rfl) rfl rfl rfl ?_
        iterate 4 refine Run.no (gB rfl rfl rfl rfl) rfl rfl ?_
        refine Run.one (ok_pick rfl rfl rfl) rfl rfl rfl ?_
        refine Run.nil ?_
        exact ⟨true, ⟨fun _ h => by omega, fun _ => rfl⟩, ent_g (subG_cons rfl (subG_cons rfl (trivial)))⟩
      · have k1_7 := of_decide_eq_false h1_7
        refine Run.one (ok_move rfl rfl) rfl rfl rfl ?_
        refine Run.one (ok_fieldAddr rfl rfl rfl) (gB rfl rfl rfl rfl) rfl rfl ?_
        refine Run.one (ok_load rfl rfl) (gB rfl rfl rfl rfl) rfl rfl ?_
        refine Run.one (ok_len rfl rfl) (gB rfl rfl rfl rfl) rfl rfl ?_
        refine Run.one (ok_cmp rfl rfl rfl rfl) (gB rfl rfl rfl rfl) rfl rfl ?_
        refine Run.one (ok_pick rfl rfl rfl) rfl rfl rfl ?_
        refine Run.nil ?_
        exact ⟨_, ⟨fun h h2 => by have := of_decide_eq_true h; omega, fun h => decide_eq_true (Classical.byContradiction fun h2 => h ⟨of_decide_eq_false h1_1, by omega, by omega⟩)⟩, ent_g (subG_cons rfl (subG_cons rfl (trivial)))⟩
  · rintro S1 ⟨w, hw, hS1⟩
    refine T_pre hS1 ?_
    refine T_cond rfl rfl (fun h17 => ?_) (fun h17 => ?_)
    · have hno : ¬ Sm s := fun h => hw.1 h17 h.1
      refine T_regionS ?_
      refine Run.one (ok_assign rfl rfl) rfl rfl rfl ?_
      refine Run.nil ?_
      refine T_ret ?_
      exact ⟨_, [], .one (.tmp rfl), List.nil_sublist _, congrArg boolS (smB_false hno).symm, rfl⟩
    · have hyes : ¬ Gr12 s ∧ s.1.length ≤ 8 ∧ s.2.1.length ≤ 8 := Classical.byContradiction fun h => by rw [hw.2 h] at h17; cases h17
      refine T_skip ?_
      refine T_seq ?_
      refine T_regionS ?_
      refine Run.one (ok_assign rfl rfl) rfl rfl rfl ?_
      refine Run.nil ?_
      refine T_block ?_
      refine T_loop (γ := Nat) (fun g => ⟨_, [(3, intS .i64 (g : Nat)), (1, ptrS (scC s))], [], [], (0, false)⟩) (fun g => g ≤ s.2.1.length ∧ ∀ r ∈ s.2.1.take g, r.length ≤ 8 ∧ ¬ G13 r) (fun g => s.2.1.length - g) 0 ⟨Nat.zero_le _, fun r hr => by simp at hr⟩ (ent_g (subG_cons rfl (subG_cons rfl (trivial)))) ?_
      rintro g ⟨hg, hn⟩
      refine T_seq ?_
      refine T_regionS ?_
      refine Run.one (ok_move rfl rfl) rfl rfl rfl ?_
      refine Run.one (ok_fieldAddr rfl rfl rfl) rfl rfl rfl ?_
      refine Run.one (ok_load rfl rfl) rfl rfl rfl ?_
      refine Run.one (ok_len rfl rfl) rfl rfl rfl ?_
      refine Run.one (ok_cmp rfl rfl rfl rfl) rfl rfl rfl ?_
      refine Run.nil ?_
      refine T_cond rfl rfl (fun h22 => ?_) (fun h22 => ?_)
      · have k22 := of_decide_eq_true h22
        obtain ⟨r, hr⟩ : ∃ r, s.2.1[g]? = some r := ⟨_, List.getElem?_eq_getElem (by omega)⟩
        refine T_skip ?_
        refine T_seq ?_
        refine T_block ?_
        refine T_seqQ (K := fun S1 => ∃ w : Bool, (w = true ↔ ¬ (r.length ≤ 8 ∧ ¬ G13 r)) ∧ Ent S1 ⟨44, [(39, boolS w), (3, intS .i64 (g : Nat)), (1, ptrS (scC s))], [], [], (0, false)⟩) ?_ ?_
        · refine T_region ?_
          refine Run.one (ok_fieldAddr rfl rfl rfl) rfl rfl rfl ?_
          refine Run.one (ok_load rfl rfl) rfl rfl rfl ?_
          refine Run.one (ok_move rfl rfl) rfl rfl rfl ?_
          refine Run.one (ok_indexAddr rfl rfl rfl (by omega) (y := r) (hr)) rfl rfl rfl ?_
          refine Run.one (ok_load rfl rfl) rfl rfl rfl ?_
          refine Run.one (ok_len rfl rfl) rfl rfl rfl ?_
          refine Run.oneB (ok_cmp rfl rfl rfl rfl) rfl rfl rfl (fun h6_6 => ?_) (fun h6_6 => ?_)
          · have k6_6 := of_decide_eq_true h6_6
            refine Run.one (ok_move rfl rfl) rfl rfl rfl ?_
            iterate 6 refine Run.no (gB rfl rfl rfl rfl) rfl rfl ?_
            refine Run.one (ok_pick rfl rfl rfl) rfl rfl rfl ?_
            refine Run.nil ?_
            exact ⟨true, ⟨fun _ h => by omega, fun _ => rfl⟩, ent_g (subG_cons rfl (subG_cons rfl (subG_cons rfl (trivial))))⟩
          · have k6_6 := of_decide_eq_false h6_6
            refine Run.one (ok_move rfl rfl) rfl rfl rfl ?_
            refine Run.one (ok_fieldAddr rfl rfl rfl) (gB rfl rfl rfl rfl) rfl rfl ?_
            refine Run.one (ok_load rfl rfl) (gB rfl rfl rfl rfl) rfl rfl ?_
            refine Run.one (ok_move rfl rfl) (gB rfl rfl rfl rfl) rfl rfl ?_
            refine Run.one (ok_indexAddr rfl rfl rfl (by omega) (y := r) (hr)) (gB rfl rfl rfl rfl) rfl rfl ?_
            refine Run.one (ok_load rfl rfl) (gB rfl rfl rfl rfl) rfl rfl ?_
            refine Run.one (ok_call rfl rfl great13_spec) (gB rfl rfl rfl rfl) rfl rfl ?_
            refine Run.one (ok_pick rfl rfl rfl) rfl rfl rfl ?_
            refine Run.nil ?_
            exact ⟨_, ⟨fun h h2 => h2.2 (of_decide_eq_true h), fun h => decide_eq_true (Classical.byContradiction fun h2 => h ⟨by omega, h2⟩)⟩, ent_g (subG_cons rfl (subG_cons rfl (subG_cons rfl (trivial))))⟩
        · rintro S1 ⟨w2, hw2, hS1⟩
          refine T_pre hS1 ?_
          refine T_cond rfl rfl (fun h39 => ?_) (fun h39 => ?_)
          · refine T_regionS ?_
            refine Run.one (ok_assign rfl rfl) rfl rfl rfl ?_
            refine Run.nil ?_
            refine T_ret ?_
            exact ⟨_, [], .one (.tmp rfl), List.nil_sublist _, congrArg boolS (smB_false fun h => hw2.1 h39 (h.2.1 _ (List.mem_of_getElem? hr))).symm, rfl⟩
          · have hok : r.length ≤ 8 ∧ ¬ G13 r := Classical.byContradiction fun h => by rw [hw2.2 h] at h39; cases h39
            refine T_skip ?_
            refine T_region ?_
            refine Run.one (ok_move rfl rfl) rfl rfl rfl ?_
            refine Run.one (ok_ari (z := ((g + 1 : Nat) : Int)) rfl rfl rfl (congrArg some (by omega)) (wrap_i64 (by omega) (by omega))) rfl rfl rfl ?_
            refine Run.one (ok_assign rfl rfl) rfl rfl rfl ?_
            refine Run.nil ?_
            exact ⟨g + 1, ⟨by omega, take_all hr hok hn⟩, by omega, ent_g (subG_cons rfl (subG_cons rfl (trivial)))⟩
      · have k22 := of_decide_eq_false h22
        obtain rfl : g = s.2.1.length := by omega
        rw [List.take_length] at hn
        refine T_exit ?_
        refine T_regionS ?_
        refine Run.one (ok_fieldAddr rfl rfl rfl) rfl rfl rfl ?_
        refine Run.one (ok_load rfl rfl) rfl rfl rfl ?_
        refine Run.one (ok_call rfl rfl great13_spec) rfl rfl rfl ?_
        refine Run.one (ok_not rfl rfl) rfl rfl rfl ?_
        refine Run.one (ok_assign rfl rfl) rfl rfl rfl ?_
        refine Run.nil ?_
        refine T_ret ?_
        exact ⟨_, [], .one (.tmp rfl), List.nil_sublist _, congrArg boolS (smB_eq (by rw [Bool.not_eq_true', decide_eq_false_iff_not]; exact ⟨fun h => h.2.2, fun h => ⟨hyes, hn, h⟩⟩)).symm, rfl⟩
theorem validCounts_spec [Tab G] [MaxLen G] {s : Sc} (hl : ScLim s) : PSpec Tryz.prog G 10 [aggS (scC s)] (boolS true) := by
  refine fn_spec Tryz.func10 rfl rfl rfl ?_
  refine T_regionS ?_
  refine Run.one (ok_box rfl rfl) rfl rfl rfl ?_
  refine Run.one (ok_assign rfl rfl) rfl rfl rfl ?_
  refine Run.nil ?_
  refine T_seq ?_
  refine T_seqQ (K := fun S1 => ∃ w : Bool, (w = false → Sm s ∧ codeF s = 0) ∧ Ent S1 ⟨111, [(15, boolS w), (1, ptrS (scC s))], [], [], (0, false)⟩) ?_ ?_
  · refine T_region ?_
    refine Run.one ((show OpOK _ _ _ _ _ (aggS (scC s)) from ok_load_agg rfl rfl rfl rfl)) rfl rfl rfl ?_
    refine Run.one (ok_call rfl rfl vSmall_spec) rfl rfl rfl ?_
    refine Run.oneB (ok_not rfl rfl) rfl rfl rfl (fun h1_2 => ?_) (fun h1_2 => ?_)
    · refine Run.one (ok_move rfl rfl) rfl rfl rfl ?_
      iterate 3 refine Run.no (gB rfl rfl rfl rfl) rfl rfl ?_
      refine Run.one (ok_pick rfl rfl rfl) rfl rfl rfl ?_
      refine Run.nil ?_
      exact ⟨true, (fun h => by cases h), ent_g (subG_cons rfl (subG_cons rfl (trivial)))⟩
    · have hsm : Sm s := smB_true (by simpa using h1_2)
      have hv := vok_of (gr_ok hl hsm.1.1) (by decide)
      refine Run.one (ok_move rfl rfl) rfl rfl rfl ?_
      refine Run.one ((show OpOK _ _ _ _ _ (aggS (scC s)) from ok_load_agg rfl rfl rfl rfl)) (gB rfl rfl rfl rfl) rfl rfl ?_
      refine Run.one (ok_call rfl rfl (code_spec hv (by unfold cap; omega))) (gB rfl rfl rfl rfl) rfl rfl ?_
      refine Run.one (ok_cmp rfl rfl rfl rfl) (gB rfl rfl rfl rfl) rfl rfl ?_
      refine Run.one (ok_pick rfl rfl rfl) rfl rfl rfl ?_
      refine Run.nil ?_
      exact ⟨_, (fun h => ⟨hsm, bne_eq_false_iff_eq.1 h⟩), ent_g (subG_cons rfl (subG_cons rfl (trivial)))⟩
  · rintro S1 ⟨w, hw, hS1⟩
    refine T_pre hS1 ?_
    refine T_cond rfl rfl (fun h15 => ?_) (fun h15 => ?_)
    · refine T_regionS ?_
      refine Run.one (ok_call rfl rfl wakes14_spec) rfl rfl rfl ?_
      refine Run.one (ok_assign rfl rfl) rfl rfl rfl ?_
      refine Run.nil ?_
      refine T_ret ?_
      exact ⟨_, [], .one (.tmp rfl), List.nil_sublist _, rfl, rfl⟩
    · obtain ⟨hsm, hc0⟩ := hw h15
      have hv := vok_of (gr_ok hl hsm.1.1) (by decide)
      have hcnt := code_cnt hc0
      obtain ⟨c1, c2, c3, c4, c5, c6⟩ := cnt_facts hcnt
      have hrp := hsm.2.1
      have h0 : 0 < s.1.length := by omega
      have m0 := getD_mem h0
      have hs6 : 100000 * 6 + 100000 ≤ cap := by decide
      refine T_skip ?_
      refine T_regionS ?_
      refine Run.one (ok_assign rfl rfl) rfl rfl rfl ?_
      refine Run.nil ?_
      refine T_seq ?_
      refine T_regionS ?_
      refine Run.one (ok_assign rfl rfl) rfl rfl rfl ?_
      refine Run.nil ?_
      refine T_block ?_
      refine T_loop (γ := Nat) (fun g => ⟨_, [(4, intS .i64 (g : Nat)), (3, intS .i64 (trisN s g : Nat)), (1, ptrS (scC s))], [], [], (0, false)⟩) (fun g => g ≤ s.2.1.length ∧ trisN s g ≤ 8 * g) (fun g => s.2.1.length - g) 0 ⟨Nat.zero_le _, Nat.le_refl _⟩ (ent_g (subG_cons rfl (subG_cons rfl (subG_cons rfl (trivial))))) ?_
      rintro g ⟨hg, hgt⟩
      refine T_seq ?_
      refine T_regionS ?_
      refine Run.one (ok_move rfl rfl) rfl rfl rfl ?_
      refine Run.one (ok_fieldAddr rfl rfl rfl) rfl rfl rfl ?_
      refine Run.one (ok_load rfl rfl) rfl rfl rfl ?_
      refine Run.one (ok_len rfl rfl) rfl rfl rfl ?_
      refine Run.one (ok_cmp rfl rfl rfl rfl) rfl rfl rfl ?_
      refine Run.nil ?_
      refine T_cond rfl rfl (fun h21 => ?_) (fun h21 => ?_)
      · have k21 := of_decide_eq_true h21
        obtain ⟨r, hr⟩ : ∃ r, s.2.1[g]? = some r := ⟨_, List.getElem?_eq_getElem (by omega)⟩
        have hr3 := c4 _ (List.mem_of_getElem? hr)
        have hr8 := (hrp _ (List.mem_of_getElem? hr)).1
        have hsu := trisN_succ hr
        refine T_skip ?_
        refine T_seq ?_
        refine T_block ?_
        refine T_region ?_
        refine Run.one (ok_move rfl rfl) rfl rfl rfl ?_
        refine Run.one (ok_fieldAddr rfl rfl rfl) rfl rfl rfl ?_
        refine Run.one (ok_load rfl rfl) rfl rfl rfl ?_
        refine Run.one (ok_move rfl rfl) rfl rfl rfl ?_
        refine Run.one (ok_indexAddr rfl rfl rfl (by omega) (y := r) (hr)) rfl rfl rfl ?_
        refine Run.one (ok_load rfl rfl) rfl rfl rfl ?_
        refine Run.one (ok_len rfl rfl) rfl rfl rfl ?_
        refine Run.one (ok_ari (z := ((r.length - 2 : Nat) : Int)) rfl rfl rfl (congrArg some (by omega)) (wrap_i64 (by omega) (by omega))) rfl rfl rfl ?_
        refine Run.one (ok_ari (z := ((trisN s (g + 1) : Nat) : Int)) rfl rfl rfl (congrArg some (by omega)) (wrap_i64 (by omega) (by omega))) rfl rfl rfl ?_
        refine Run.one (ok_assign rfl rfl) rfl rfl rfl ?_
        refine Run.nil ?_
        refine T_region ?_
        refine Run.one (ok_move rfl rfl) rfl rfl rfl ?_
        refine Run.one (ok_ari (z := ((g + 1 : Nat) : Int)) rfl rfl rfl (congrArg some (by omega)) (wrap_i64 (by omega) (by omega))) rfl rfl rfl ?_
        refine Run.one (ok_assign rfl rfl) rfl rfl rfl ?_
        refine Run.nil ?_
        exact ⟨g + 1, ⟨by omega, by omega⟩, by omega, ent_g (subG_cons rfl (subG_cons rfl (subG_cons rfl (trivial))))⟩
      · have k21 := of_decide_eq_false h21
        obtain rfl : g = s.2.1.length := by omega
        rw [trisN_all]
        refine T_exit ?_
        refine T_seq ?_
        refine T_regionS ?_
        refine Run.one ((show OpOK _ _ _ _ _ (aggS (scC s)) from ok_load_agg rfl rfl rfl rfl)) rfl rfl rfl ?_
        refine Run.one ((ok_call rfl rfl (counts_spec hv)).sub (bool_eq (c := true) hcnt)) rfl rfl rfl ?_
        refine Run.one (ok_not rfl rfl) rfl rfl rfl ?_
        refine Run.one (ok_move rfl rfl) rfl rfl rfl ?_
        refine Run.one ((show OpOK _ _ _ _ _ (aggS (scC s)) from ok_load_agg rfl rfl rfl rfl)) (gB rfl rfl rfl rfl) rfl rfl ?_
        refine Run.one (ok_call rfl rfl (tris_spec hv)) (gB rfl rfl rfl rfl) rfl rfl ?_
        refine Run.one (ok_move rfl rfl) (gB rfl rfl rfl rfl) rfl rfl ?_
        refine Run.one ((ok_cmp rfl rfl rfl rfl).sub (bool_eq (c := false) (by simp))) (gB rfl rfl rfl rfl) rfl rfl ?_
        refine Run.one (ok_pick rfl rfl rfl) rfl rfl rfl ?_
        refine Run.one (ok_move rfl rfl) rfl rfl rfl ?_
        refine Run.one (ok_move rfl rfl) (gB rfl rfl rfl rfl) rfl rfl ?_
        refine Run.one ((ok_cmp rfl rfl rfl rfl).sub (bool_eq (c := false) (decide_eq_false (by omega)))) (gB rfl rfl rfl rfl) rfl rfl ?_
        refine Run.one (ok_pick rfl rfl rfl) rfl rfl rfl ?_
        refine Run.nil ?_
        refine T_condF rfl rfl ?_
        refine T_skip ?_
        refine T_draw3S 3 (by kernel_rfl) rfl rfl rfl rfl rfl rfl ?_
        iterate 3 refine RunE.lat ((show OpOK _ _ _ _ _ (aggS (scC s)) from ok_load_agg rfl rfl rfl rfl)) rfl rfl rfl ?_
        refine RunE.nil ?_
        refine ⟨⟨_, _, _, _, _, _, _, _, _, _, _, _, (show [5, 6, 7].Nodup by decide), NewL.mk1 rfl rfl rfl rfl rfl rfl rfl rfl rfl rfl rfl, NewL.mk1 rfl rfl rfl rfl rfl rfl rfl rfl rfl rfl rfl, NewL.mk1 rfl rfl rfl rfl rfl rfl rfl rfl rfl rfl rfl, fun b5 b6 b7 => ?_⟩⟩
        refine Run.nil ?_
        refine T_seq ?_
        refine T_block ?_
        refine T_loop (γ := Nat) (fun j => ⟨111, [(7, eqS (.pointer (some ⟨b7, 0, none⟩))), (6, eqS (.pointer (some ⟨b6, 0, none⟩))), (5, eqS (.pointer (some ⟨b5, 0, none⟩))), (1, ptrS (scC s))], [⟨some b7, 54, scC s, 0⟩, ⟨some b6, 54, scC s, 0⟩, ⟨some b5, 54, scC (s.1, s.2.1, (s.2.2 ++ List.replicate j default)), 0⟩], [], (0, false)⟩) (fun j => s.2.2.length + j ≤ 9) (fun j => 20 - j) 0 (by omega) (ent_h (subG_cons rfl (subG_cons rfl (subG_cons rfl (subG_cons rfl (trivial))))) (by simp <;> rfl)) ?_
        intro j hj
        obtain ⟨A, hA⟩ : ∃ A, A = (s.2.2 ++ List.replicate j default) := ⟨_, rfl⟩
        have hAl : A.length = s.2.2.length + j := by rw [hA]; simp
        have hA1 : s.2.2 ++ List.replicate (j + 1) default = A ++ [default] := by rw [hA, List.append_assoc, List.replicate_succ']
        rw [← hA]
        refine T_seq ?_
        refine T_regionS ?_
        refine Run.one (ok_fieldAddr_eq rfl rfl rfl) rfl rfl rfl ?_
        refine Run.one (ok_load_own 2 rfl rfl rfl rfl) rfl rfl rfl ?_
        refine Run.one ((ok_len rfl rfl).sub (int_eq (n := ((s.2.2.length + j : Nat) : Int)) (by rw [hAl]))) rfl rfl rfl ?_
        refine Run.one (ok_cmp rfl rfl rfl rfl) rfl rfl rfl ?_
        refine Run.nil ?_
        refine T_cond rfl rfl (fun h52 => ?_) (fun h52 => ?_)
        · have k52 := of_decide_eq_true h52
          refine T_skip ?_
          refine T_block ?_
          refine T_region ?_
          refine Run.buildRow rfl rfl rfl rfl rfl rfl (by decide) rfl (.inl rfl) rfl rfl fun b53 hb53 => ?_
          refine Run.one (ok_fieldAddr_eq rfl rfl rfl) rfl rfl rfl ?_
          refine Run.one (ok_load_own 3 rfl rfl rfl rfl) rfl rfl rfl ?_
          refine Run.append 0 rfl rfl rfl rfl rfl rfl rfl rfl hb53 (rfl) (fun z hz => rfl) (by unfold big; simp; omega) (by unfold big; simp; omega) fun q56 hq56 => ?_
          refine Run.one ((show OpOK _ _ _ _ _ (aggS (queC default)) from (ok_build rfl rfl (by kernel_rfl)).sub nilQ_den)) rfl rfl rfl ?_
          refine Run.one (ok_buildSlice rfl rfl (by decide) rfl (by simp) (by kernel_rfl) (by kernel_rfl)) rfl rfl rfl ?_
          refine Run.append 0 rfl rfl rfl rfl rfl rfl rfl rfl hq56 (by rw [Nat.zero_add]; exact flatQue A) (fun z hz => by rw [List.mem_singleton.1 hz]; rfl) (by unfold big; simp; omega) (by unfold big; simp; omega) fun q59 hq59 => ?_
          refine Run.one (ok_fieldAddr_eq rfl rfl rfl) rfl rfl rfl ?_
          refine Run.store 3 rfl rfl rfl rfl rfl rfl rfl rfl rfl ?_
          refine Run.ghost _ rfl (ghost_slo [slS 6 pc s.1, slS 1 rowC s.2.1] [] [] [_, _] [] hq59 (l := A ++ [default]) (f := queC) (by simp) (by simp [List.flatMap_append]) (fun _ _ => rfl) (by unfold big; simp; omega)) ?_
          refine Run.nil ?_
          exact ⟨j + 1, (by omega : s.2.2.length + (j + 1) ≤ 9), by omega, ent_h (subG_cons rfl (subG_cons rfl (subG_cons rfl (subG_cons rfl (trivial))))) (by rw [hA1]; rfl)⟩
        · have k52 := of_decide_eq_false h52
          have va : VOk (s.1, s.2.1, A) 6 := ⟨hv.pos, hv.rob, hv.obs, hv.rl, hv.ol, hv.orl, by show A.length ≤ 1000000; omega⟩
          have ca : codeF (s.1, s.2.1, A) = 4 := code_four (cnt_que (by show 8 < A.length; omega))
          refine T_exit ?_
          refine T_seq ?_
          refine T_block ?_
          refine T_loop (γ := Nat) (fun j2 => ⟨111, [(7, eqS (.pointer (some ⟨b7, 0, none⟩))), (6, eqS (.pointer (some ⟨b6, 0, none⟩))), (5, eqS (.pointer (some ⟨b5, 0, none⟩))), (1, ptrS (scC s))], [⟨some b7, 54, scC s, 0⟩, ⟨some b6, 54, scC (s.1, (s.2.1 ++ List.replicate j2 s.1), s.2.2), 0⟩, ⟨some b5, 54, scC (s.1, s.2.1, A), 0⟩], [], (0, false)⟩) (fun j2 => s.2.1.length + j2 ≤ 5) (fun j2 => 20 - j2) 0 (by omega) (ent_h (subG_cons rfl (subG_cons rfl (subG_cons rfl (subG_cons rfl (trivial))))) (by simp <;> rfl)) ?_
          intro j2 hj2
          obtain ⟨O, hO⟩ : ∃ O, O = (s.2.1 ++ List.replicate j2 s.1) := ⟨_, rfl⟩
          have hOl : O.length = s.2.1.length + j2 := by rw [hO]; simp
          have hO1 : s.2.1 ++ List.replicate (j2 + 1) s.1 = O ++ [s.1] := by rw [hO, List.append_assoc, List.replicate_succ']
          have hOm : ∀ r ∈ O, r ∈ s.2.1 ∨ r = s.1 := fun r hr => by rw [hO] at hr; rcases List.mem_append.1 hr with hr | hr; exact .inl hr; exact .inr (List.eq_of_mem_replicate hr)
          rw [← hO]
          refine T_seq ?_
          refine T_regionS ?_
          refine Run.one (ok_fieldAddr_eq rfl rfl rfl) rfl rfl rfl ?_
          refine Run.one (ok_load_own 1 rfl rfl rfl rfl) rfl rfl rfl ?_
          refine Run.one ((ok_len rfl rfl).sub (int_eq (n := ((s.2.1.length + j2 : Nat) : Int)) (by rw [hOl]))) rfl rfl rfl ?_
          refine Run.one (ok_cmp rfl rfl rfl rfl) rfl rfl rfl ?_
          refine Run.nil ?_
          refine T_cond rfl rfl (fun h64 => ?_) (fun h64 => ?_)
          · have k64 := of_decide_eq_true h64
            refine T_skip ?_
            refine T_block ?_
            refine T_drawZ [1, 2, 4, 5, 6, 0, 3, 7, 8, 9] 10 5 6 [7, 9] _ (by kernel_rfl) (by kernel_rfl) (.cons_cons _ (.cons _ (.cons_cons _ .slnil))) ?_
            refine RunE.one (ok_fieldAddr_eq rfl rfl rfl) rfl rfl rfl (by kernel_rfl) ?_
            refine RunE.one (ok_load_own 1 rfl rfl rfl rfl) rfl rfl rfl (by kernel_rfl) ?_
            refine RunE.lat (ok_fieldAddr rfl rfl rfl) rfl rfl rfl ?_
            refine RunE.lat (ok_load rfl rfl) rfl rfl rfl ?_
            refine RunE.lat (ok_buildSlice rfl rfl (by decide) rfl (by simp) rfl rfl) rfl rfl rfl ?_
            refine RunE.nil ⟨_, rfl, ?_⟩
            refine .loc0 (l_buildRow rfl rfl (by decide) rfl (.inl rfl) rfl rfl) rfl rfl rfl ?_
            rintro s1 H1 ⟨b65, hb65, rfl, rfl⟩
            refine ⟨(.cons _ (.cons_cons _ (.cons_cons _ (.cons_cons _ .slnil)))), ?_⟩
            refine RunE.nil ⟨_, rfl, ?_⟩
            refine EffM.append 0 rfl rfl rfl rfl rfl rfl rfl hb65 (rfl) (fun z hz => rfl) (by unfold big; simp; omega) (by unfold big; simp; omega) fun q68 hq68 => ⟨(.cons _ (.cons_cons _ (.cons _ (.cons_cons _ .slnil)))), ?_⟩
            refine RunE.nil ⟨_, rfl, ?_⟩
            refine EffM.append 0 rfl rfl rfl rfl rfl rfl rfl hq68 (by rw [Nat.zero_add]; exact flatRow O) (fun z hz => by rw [List.mem_singleton.1 hz]; rfl) (by unfold big; simp; omega) (by unfold big; simp; omega) fun q72 hq72 => ⟨(.cons _ (.cons_cons _ (.cons _ (.cons_cons _ .slnil)))), ?_⟩
            refine RunE.one (ok_fieldAddr_eq rfl rfl rfl) rfl rfl rfl (by kernel_rfl) ?_
            refine RunE.nil ⟨_, rfl, ?_⟩
            refine .loc1n 2 (l_store rfl rfl rfl rfl (by first | decide | (simp; done) | (simp; omega))) rfl rfl rfl ?_
            rintro s1 H1 ⟨rfl, rfl⟩
            refine ⟨(.cons _ (.cons_cons _ (.cons _ (.cons_cons _ .slnil)))), ?_⟩
            refine RunE.nil ?_
            refine Run.ghost _ rfl (ghost_slo [slS 6 pc s.1] [slS 12 queC s.2.2] [] [_] [_] hq72 (l := O ++ [s.1]) (f := rowC) (by simp) (by simp [List.flatMap_append]) (fun _ _ => rfl) (by unfold big; simp; omega)) ?_
            refine Run.nil ?_
            exact ⟨j2 + 1, (by omega : s.2.1.length + (j2 + 1) ≤ 5), by omega, ent_h (subG_cons rfl (subG_cons rfl (subG_cons rfl (subG_cons rfl (trivial))))) (by rw [hO1]; rfl)⟩
          · have k64 := of_decide_eq_false h64
            have vb : VOk (s.1, O, s.2.2) 6 := ⟨hv.pos, hv.rob, fun r hr => (hOm r hr).elim (hv.obs r) (fun e => e ▸ hv.rob), hv.rl, by show O.length ≤ 1000000; omega, fun r hr => (hOm r hr).elim (hv.orl r) (fun e => e ▸ hv.rl), hv.ql⟩
            have cb : codeF (s.1, O, s.2.2) = 4 := code_four (cnt_obs (by show 4 < O.length; omega))
            refine T_exit ?_
            refine T_seq ?_
            refine T_block ?_
            refine T_loop (γ := Nat) (fun j3 => ⟨111, [(7, eqS (.pointer (some ⟨b7, 0, none⟩))), (6, eqS (.pointer (some ⟨b6, 0, none⟩))), (5, eqS (.pointer (some ⟨b5, 0, none⟩))), (1, ptrS (scC s))], [⟨some b7, 54, scC ((s.1 ++ List.replicate j3 (ra s.1 0)), s.2.1, s.2.2), 0⟩, ⟨some b6, 54, scC (s.1, O, s.2.2), 0⟩, ⟨some b5, 54, scC (s.1, s.2.1, A), 0⟩], [], (0, false)⟩) (fun j3 => s.1.length + j3 ≤ 7) (fun j3 => 20 - j3) 0 (by omega) (ent_h (subG_cons rfl (subG_cons rfl (subG_cons rfl (subG_cons rfl (trivial))))) (by simp <;> rfl)) ?_
            intro j3 hj3
            obtain ⟨R, hR⟩ : ∃ R, R = (s.1 ++ List.replicate j3 (ra s.1 0)) := ⟨_, rfl⟩
            have hRl : R.length = s.1.length + j3 := by rw [hR]; simp
            have hR1 : s.1 ++ List.replicate (j3 + 1) (ra s.1 0) = R ++ [ra s.1 0] := by rw [hR, List.append_assoc, List.replicate_succ']
            have hRm : ∀ p ∈ R, PtOk 6 p := fun p hp => by rw [hR] at hp; rcases List.mem_append.1 hp with hp | hp; exact hv.rob p hp; rw [List.eq_of_mem_replicate hp]; exact hv.rob _ m0
            rw [← hR]
            refine T_seq ?_
            refine T_regionS ?_
            refine Run.one (ok_fieldAddr_eq rfl rfl rfl) rfl rfl rfl ?_
            refine Run.one (ok_load_own 0 rfl rfl rfl rfl) rfl rfl rfl ?_
            refine Run.one ((ok_len rfl rfl).sub (int_eq (n := ((s.1.length + j3 : Nat) : Int)) (by rw [hRl]))) rfl rfl rfl ?_
            refine Run.oneB (ok_cmp rfl rfl rfl rfl) rfl rfl rfl (fun h15_3 => ?_) (fun h15_3 => ?_)
            · have k15_3 := of_decide_eq_true h15_3
              refine Run.one (ok_move rfl rfl) rfl rfl rfl ?_
              refine Run.one (ok_fieldAddr rfl rfl rfl) (gB rfl rfl rfl rfl) rfl rfl ?_
              refine Run.one (ok_load rfl rfl) (gB rfl rfl rfl rfl) rfl rfl ?_
              refine Run.one (ok_len rfl rfl) (gB rfl rfl rfl rfl) rfl rfl ?_
              refine Run.one ((ok_cmp rfl rfl rfl rfl).sub (bool_eq (c := true) (decide_eq_true (by omega)))) (gB rfl rfl rfl rfl) rfl rfl ?_
              refine Run.one (ok_pick rfl rfl rfl) rfl rfl rfl ?_
              refine Run.nil ?_
              refine T_condT rfl rfl ?_
              refine T_skip ?_
              refine T_block ?_
              refine T_drawZ [1, 2, 4, 5, 6, 7, 8, 0, 3, 9, 10, 11] 12 7 8 [9, 11] _ (by kernel_rfl) (by kernel_rfl) (.cons _ (.cons_cons _ (.cons_cons _ .slnil))) ?_
              refine RunE.one (ok_fieldAddr_eq rfl rfl rfl) rfl rfl rfl (by kernel_rfl) ?_
              refine RunE.one (ok_load_own 0 rfl rfl rfl rfl) rfl rfl rfl (by kernel_rfl) ?_
              refine RunE.lat (ok_fieldAddr rfl rfl rfl) rfl rfl rfl ?_
              refine RunE.lat (ok_load rfl rfl) rfl rfl rfl ?_
              refine RunE.lat (ok_indexAddr rfl rfl rfl (by omega) (y := ra s.1 0) (get_getD h0)) rfl rfl rfl ?_
              refine RunE.lat ((show OpOK _ _ _ _ _ (aggS (pc (ra s.1 0))) from ok_load_agg rfl rfl rfl rfl)) rfl rfl rfl ?_
              refine RunE.lat (ok_buildSlice rfl rfl (by decide) rfl (by simp) (by kernel_rfl) (by kernel_rfl)) rfl rfl rfl ?_
              refine RunE.nil ⟨_, rfl, ?_⟩
              refine .loc0 (l_buildRow rfl rfl (by decide) rfl (.inl rfl) rfl rfl) rfl rfl rfl ?_
              rintro s1 H1 ⟨b84, hb84, rfl, rfl⟩
              refine ⟨(.cons _ (.cons_cons _ (.cons_cons _ (.cons_cons _ .slnil)))), ?_⟩
              refine RunE.nil ⟨_, rfl, ?_⟩
              refine EffM.append 0 rfl rfl rfl rfl rfl rfl rfl hb84 (rfl) (fun z hz => rfl) (by unfold big; simp; omega) (by unfold big; simp; omega) fun q87 hq87 => ⟨(.cons _ (.cons _ (.cons_cons _ (.cons_cons _ .slnil)))), ?_⟩
              refine RunE.nil ⟨_, rfl, ?_⟩
              refine EffM.append 0 rfl rfl rfl rfl rfl rfl rfl hq87 (by rw [Nat.zero_add]; exact flatPc R) (fun z hz => by rw [List.mem_singleton.1 hz]; rfl) (by unfold big; simp; omega) (by unfold big; simp; omega) fun q93 hq93 => ⟨(.cons _ (.cons _ (.cons_cons _ (.cons_cons _ .slnil)))), ?_⟩
              refine RunE.one (ok_fieldAddr_eq rfl rfl rfl) rfl rfl rfl (by kernel_rfl) ?_
              refine RunE.nil ⟨_, rfl, ?_⟩
              refine .loc1n 1 (l_store rfl rfl rfl rfl (by first | decide | (simp; done) | (simp; omega))) rfl rfl rfl ?_
              rintro s1 H1 ⟨rfl, rfl⟩
              refine ⟨(.cons _ (.cons _ (.cons_cons _ (.cons_cons _ .slnil)))), ?_⟩
              refine RunE.nil ?_
              refine Run.ghost _ rfl (ghost_slo [] [slS 1 rowC s.2.1, slS 12 queC s.2.2] [] [] [_, _] hq93 (l := R ++ [ra s.1 0]) (f := pc) (by simp) (by simp [List.flatMap_append]) (fun _ _ => rfl) (by unfold big; simp; omega)) ?_
              refine Run.nil ?_
              exact ⟨j3 + 1, (by omega : s.1.length + (j3 + 1) ≤ 7), by omega, ent_h (subG_cons rfl (subG_cons rfl (subG_cons rfl (subG_cons rfl (trivial))))) (by rw [hR1]; rfl)⟩
            · have k15_3 := of_decide_eq_false h15_3
              refine Run.one (ok_move rfl rfl) rfl rfl rfl ?_
              iterate 4 refine Run.no (gB rfl rfl rfl rfl) rfl rfl ?_
              refine Run.one (ok_pick rfl rfl rfl) rfl rfl rfl ?_
              refine Run.nil ?_
              refine T_condF rfl rfl ?_
              refine T_exit ?_
              have vc : VOk (R, s.2.1, s.2.2) 6 := ⟨hv.pos, hRm, hv.obs, by show R.length ≤ 1000000; omega, hv.ol, hv.orl, hv.ql⟩
              have cc : codeF (R, s.2.1, s.2.2) = 4 := code_four (cnt_rob (by show 6 < R.length; omega))
              refine T_regionS ?_
              refine Run.one ((show OpOK _ _ _ _ _ (aggS (scC (s.1, s.2.1, A))) from ok_load_own_agg 2 rfl rfl rfl (by kernel_rfl) rfl)) rfl rfl rfl ?_
              refine Run.one ((ok_call rfl rfl (code_spec va hs6)).sub (int_eq (n := 4) ca)) rfl rfl rfl ?_
              refine Run.one (ok_cmp rfl rfl rfl rfl) rfl rfl rfl ?_
              refine Run.one (ok_move rfl rfl) rfl rfl rfl ?_
              refine Run.one ((show OpOK _ _ _ _ _ (aggS (scC (s.1, O, s.2.2))) from ok_load_own_agg 1 rfl rfl rfl (by kernel_rfl) rfl)) (gB rfl rfl rfl rfl) rfl rfl ?_
              refine Run.one ((ok_call rfl rfl (code_spec vb hs6)).sub (int_eq (n := 4) cb)) (gB rfl rfl rfl rfl) rfl rfl ?_
              refine Run.one (ok_cmp rfl rfl rfl rfl) (gB rfl rfl rfl rfl) rfl rfl ?_
              refine Run.one (ok_pick rfl rfl rfl) rfl rfl rfl ?_
              refine Run.one (ok_move rfl rfl) rfl rfl rfl ?_
              refine Run.one ((show OpOK _ _ _ _ _ (aggS (scC (R, s.2.1, s.2.2))) from ok_load_own_agg 0 rfl rfl rfl (by kernel_rfl) rfl)) (gB rfl rfl rfl rfl) rfl rfl ?_
              refine Run.one ((ok_call rfl rfl (code_spec vc hs6)).sub (int_eq (n := 4) cc)) (gB rfl rfl rfl rfl) rfl rfl ?_
              refine Run.one (ok_cmp rfl rfl rfl rfl) (gB rfl rfl rfl rfl) rfl rfl ?_
              refine Run.one (ok_pick rfl rfl rfl) rfl rfl rfl ?_
              refine Run.one (ok_move rfl rfl) rfl rfl rfl ?_
              refine Run.one (ok_call rfl rfl wakes14_spec) (gB rfl rfl rfl rfl) rfl rfl ?_
              refine Run.one (ok_pick rfl rfl rfl) rfl rfl rfl ?_
              refine Run.one (ok_assign rfl rfl) rfl rfl rfl ?_
              refine Run.nil ?_
              refine T_ret ?_
              exact ⟨_, [], .one (.tmp rfl), List.nil_sublist _, rfl, rfl⟩
end Go.Proofs
