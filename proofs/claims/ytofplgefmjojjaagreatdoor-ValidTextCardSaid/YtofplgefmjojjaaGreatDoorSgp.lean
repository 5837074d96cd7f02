/- straitlaw14: the law ValidText, on the facts. -/
import Derived.Test.YtofplgefmjojjaaGreatDoorSgo
import Derived.Test.YtofplgefmjojjaaGreatDoorScl
import Derived.Test.YtofplgefmjojjaaGreatDoorScr
namespace Num
open Go Go.Proofs
theorem codeQ_vals (q : QS) : codeQ q = 0 ∨ codeQ q = 4 ∨ codeQ q = 5 ∨ codeQ q = 6 := by
 unfold codeQ; split; exact .inr (.inl rfl); split; exact .inr (.inr (.inl rfl)); split; exact .inr (.inr (.inr rfl)); exact .inl rfl
theorem codeQ_ok {q : QS} (h : codeQ q = 0) : q.1 ≠ [] ∧ ∀ l ∈ q.2.1, l ≠ [] := by
 have h1 := code_cnt (s := rawS q) (by rw [code_nrm, nrm_raw]; exact h)
 obtain ⟨a, _, _, b, _, _⟩ := cnt_facts h1
 unfold rawS rawR at a b
 simp only [List.length_map] at a
 refine ⟨fun e => by rw [e] at a; simp at a, fun l hl e => ?_⟩
 have := b _ (List.mem_map.2 ⟨l, hl, rfl⟩)
 rw [e] at this; simp at this
theorem text_print (q : QS) : (codeQ q = 0 ∧ dgF 0 (qsPts q) ≤ 6 → textF (prT q) = (q, 0) ∧ parseF (prT q) = (q, 0)) ∧ (¬ (codeQ q = 0 ∧ dgF 0 (qsPts q) ≤ 6) → (textF (prT q)).2 ≠ 0) := by
 have hp60 : dgF 0 (qsPts q) ≤ 6 → P60 (qsPts q) := fun h p hp => by
  have h1 : ¬ (6 < nD p.1 ∨ 6 < nD p.2) := fun e => absurd (dgF_gt.2 ⟨p, hp, e⟩) (show ¬ 6 < dgF 0 (qsPts q) by omega)
  constructor
  ·exact Nat.le_of_not_lt fun e => h1 (.inl (by omega))
  ·exact Nat.le_of_not_lt fun e => h1 (.inr (by omega))
 constructor
 ·rintro ⟨h1, h2⟩
  obtain ⟨hR, hO⟩ := codeQ_ok h1
  have hp : parseF (prT q) = (q, 0) := by rw [parse_good hR hO (hp60 h2), if_neg (by omega)]
  refine ⟨?_, hp⟩
  unfold textF
  rw [hp, if_pos rfl, if_pos h1]
 ·intro h
  by_cases hb : q.1 = [] ∨ (∃ l ∈ q.2.1, l = []) ∨ ∃ p ∈ qsPts q, 60 < nD p.1 ∨ 60 < nD p.2
  ·unfold textF
   rw [parse_bad hb, if_neg (by decide)]
   decide
  ·have hR : q.1 ≠ [] := fun e => hb (.inl e)
   have hO : ∀ l ∈ q.2.1, l ≠ [] := fun l hl e => hb (.inr (.inl ⟨l, hl, e⟩))
   have h60 : P60 (qsPts q) := fun p hp => by
    have h1 := fun e => hb (.inr (.inr ⟨p, hp, e⟩))
    exact ⟨Nat.le_of_not_lt fun e => h1 (.inl e), Nat.le_of_not_lt fun e => h1 (.inr e)⟩
   have hp := parse_good hR hO h60
   unfold textF
   by_cases h6 : 6 < dgF 0 (qsPts q)
   ·rw [hp, if_pos h6, if_neg (by decide)]; decide
   ·rw [hp, if_neg h6, if_pos rfl]
    have hc : codeQ q ≠ 0 := fun e => h ⟨e, by omega⟩
    rw [if_neg hc]; exact hc
theorem parse_print {q : QS} (h : (parseF (prT q)).2 = 0) : (parseF (prT q)).1 = q := by
 by_cases hb : q.1 = [] ∨ (∃ l ∈ q.2.1, l = []) ∨ ∃ p ∈ qsPts q, 60 < nD p.1 ∨ 60 < nD p.2
 ·rw [parse_bad hb] at h; cases h
 ·have h60 : P60 (qsPts q) := fun p hp => by
   have h1 := fun e => hb (.inr (.inr ⟨p, hp, e⟩))
   exact ⟨Nat.le_of_not_lt fun e => h1 (.inl e), Nat.le_of_not_lt fun e => h1 (.inr e)⟩
  rw [parse_good (fun e => hb (.inl e)) (fun l hl e => hb (.inr (.inl ⟨l, hl, e⟩))) h60] at h ⊢
  by_cases h6 : 6 < dgF 0 (qsPts q)
  ·rw [if_pos h6] at h; cases h
  ·rw [if_neg h6]
end Num
namespace Go.Proofs
open Go Go.Sv Num
variable {G : Imm}
theorem validText_spec [Tab G] [MaxLen G] {s : Sc} (hl : ScLim s) {t : List UInt8} : PSpec Tryz.prog G 8 [aggS (scC s), strS t] (boolS true) := by
 refine fn_spec Tryz.func8 rfl rfl rfl ?_
 refine T_regionS ?_
 iterate 2 refine zz ?_
 refine Run.nil ?_
 refine T_seq ?_
 refine T_seqQ (K := fun S1 => ∃ w : Bool, (w = false → Sm s ∧ t.length ≤ 800) ∧ Ent S1 ⟨97, [(19, boolS w), (2, ptrS (scC s)), (1, strS t)], [], [], (0, false)⟩) ?_ ?_
 ·refine T_region ?_
  refine zo ((show OpOK _ _ _ _ _ (aggS (scC s)) from ok_load_agg rfl rfl rfl rfl)) ?_
  refine zf vSmall_spec ?_
  refine Run.oneB (ok_not rfl rfl) rfl rfl rfl (fun h1_2 => ?_) (fun h1_2 => ?_)
  ·refine zz ?_
   iterate 3 refine zq ?_
   refine zz ?_
   refine Run.nil ?_
   exact ⟨true, (fun h => by cases h), ent_g (subG_cons rfl (subG_cons rfl (subG_cons rfl (trivial))))⟩
  ·refine zz ?_
   refine zz ?_
   refine zo (ok_len_str rfl rfl) ?_
   iterate 2 refine zz ?_
   refine Run.nil ?_
   exact ⟨_, (fun h => ⟨smB_true (by simpa using h1_2), by have := of_decide_eq_false h; omega⟩), ent_g (subG_cons rfl (subG_cons rfl (subG_cons rfl (trivial))))⟩
 ·rintro S1 ⟨w, hw, hS1⟩
  refine T_pre hS1 ?_
  refine T_cond rfl rfl (fun h19 => ?_) (fun h19 => ?_)
  ·refine T_regionS ?_
   refine zf wakes14_spec ?_
   refine zz ?_
   refine Run.nil ?_
   refine T_ret ?_
   exact ⟨_, [], .one (.tmp rfl), List.nil_sublist _, rfl, rfl⟩
  ·obtain ⟨hsm, htl⟩ := hw h19
   have hok := gr_ok hl hsm.1.1
   have hv := vok_of hok (by decide)
   have hs6 : 100000 * 6 + 100000 ≤ cap := by decide
   have pok := parsed_ok (t := t) (by omega)
   have hvt : (parseF t).2 = 0 → VOk (rawS (parseF t).1) 1 := fun h => vok_of (pok h).1 (by decide)
   have htx := vText_spec (G := G) (t := t) (by omega) hvt wk_cap
   have hps := rParse12_spec (G := G) (t := t) (by omega)
   obtain ⟨pf1, pf2⟩ := parse_facts t
   obtain ⟨⟨b, p⟩, hbp⟩ : ∃ x, parseF t = x := ⟨_, rfl⟩
   rw [hbp] at hps hvt pf1 pf2
   obtain ⟨⟨a, c⟩, hac⟩ : ∃ x, textF t = x := ⟨_, rfl⟩
   rw [hac] at htx
   have hcv := codeQ_vals b
   have hdef : (a, c) = if p = 0 then (if codeQ b = 0 then (b, 0) else (([], [], []), codeQ b)) else (([], [], []), p) := by rw [← hac]; unfold textF; rw [hbp]
   have hcp : p ≠ 0 → c = p ∧ a = ([], [], []) := fun h => by rw [if_neg h] at hdef; cases hdef; exact ⟨rfl, rfl⟩
   have hcq : p = 0 → c = codeQ b := fun h => by rw [if_pos h] at hdef; split at hdef; cases hdef; rename_i h0; exact h0.symm; cases hdef; rfl
   have hca : c ≠ 0 → a = ([], [], []) := fun h => by
    by_cases h0 : p = 0
    ·rw [if_pos h0] at hdef
     split at hdef
     ·cases hdef; exact absurd rfl h
     ·cases hdef; rfl
    ·exact (hcp h0).2
   have hrange : 0 ≤ c ∧ c ≤ 6 := by
    by_cases h0 : p = 0
    ·have := hcq h0; omega
    ·have h1 := hcp h0; have h2 := pf2 h0; simp only at h2; omega
   refine T_skip ?_
   refine T_regionS ?_
   refine zz ?_
   refine zf htx ?_
   iterate 3 refine zz ?_
   refine Run.alloc rfl rfl rfl rfl rfl fun b5 => ?_
   refine zw ?_
   refine zz ?_
   refine zx ?_
   refine zz ?_
   refine zf hps ?_
   iterate 3 refine zz ?_
   refine Run.alloc rfl rfl rfl rfl rfl fun b7 => ?_
   refine zw ?_
   refine zz ?_
   refine Run.nil ?_
   refine T_seq ?_
   refine T_seqQ (K := fun S1 => Ent S1 ⟨97, [(65, boolS false), (2, ptrS (scC s))], [⟨some b7, 54, qsC b, 0⟩, ⟨some b5, 54, qsC a, 0⟩], [], (0, false)⟩) ?_ ?_
   ·refine T_region ?_
    refine zz ?_
    refine Run.oneB (ok_cmp rfl rfl rfl rfl) rfl rfl rfl (fun h5_1 => ?_) (fun h5_1 => ?_)
    ·have k5_1 := bne_iff_ne.1 h5_1
     iterate 3 refine zz ?_
     refine zo ((ok_cmp rfl rfl rfl rfl).sub (bool_eq (c := false) (by rw [(hcp k5_1).1]; simp))) ?_
     iterate 3 refine zz ?_
     refine Run.oneB (ok_cmp rfl rfl rfl rfl) (gB rfl rfl rfl rfl) rfl rfl (fun h5_9 => ?_) (fun h5_9 => ?_)
     ·have k5_9 := beq_iff_eq.1 h5_9
      iterate 2 refine zz ?_
      refine zo ((show OpOK _ _ _ _ _ (aggS (qsC b)) from ok_load_own_agg 0 rfl rfl rfl (by kernel_rfl) rfl)) ?_
      refine zo ((ok_call rfl rfl ((code_spec (hvt k5_9) wk_cap).args (args' := [aggS (qsC b)]) ⟨qs_sc, trivial⟩)).sub (int_eq (n := codeQ b) (by rw [code_nrm, nrm_raw]))) ?_
      refine zo ((ok_cmp rfl rfl rfl rfl).sub (bool_eq (c := false) (by rw [hcq k5_9]; simp))) ?_
      iterate 4 refine zz ?_
      refine Run.oneB (ok_cmp rfl rfl rfl rfl) (gB rfl rfl rfl rfl) rfl rfl (fun h5_19 => ?_) (fun h5_19 => ?_)
      ·have k5_19 := bne_iff_ne.1 h5_19
       refine zz ?_
       refine zo ((show OpOK _ _ _ _ _ (aggS (qsC a)) from ok_load_own_agg 1 rfl rfl rfl (by kernel_rfl) rfl)) ?_
       refine zo ((ok_build rfl rfl (by kernel_rfl)).sub nil_qs) ?_
       refine zo ((ok_call rfl rfl told12_spec).sub (bool_eq (c := true) (decide_eq_true (hca k5_19)))) ?_
       iterate 5 refine zz ?_
       refine zo ((ok_cmp rfl rfl rfl rfl).sub (bool_eq (c := false) (decide_eq_false (by omega)))) ?_
       iterate 3 refine zz ?_
       refine zo ((ok_cmp rfl rfl rfl rfl).sub (bool_eq (c := false) (decide_eq_false (by omega)))) ?_
       refine zz ?_
       refine Run.nil ?_
       exact ent_h zk rfl
      ·have k5_19 := bne_eq_false_iff_eq.1 h5_19
       refine zz ?_
       iterate 4 refine zq ?_
       iterate 4 refine zz ?_
       refine zo ((ok_cmp rfl rfl rfl rfl).sub (bool_eq (c := false) (decide_eq_false (by omega)))) ?_
       iterate 3 refine zz ?_
       refine zo ((ok_cmp rfl rfl rfl rfl).sub (bool_eq (c := false) (decide_eq_false (by omega)))) ?_
       refine zz ?_
       refine Run.nil ?_
       exact ent_h zk rfl
     ·have k5_9 := beq_eq_false_iff_ne.1 h5_9
      refine zz ?_
      iterate 4 refine zq ?_
      iterate 4 refine zz ?_
      refine Run.oneB (ok_cmp rfl rfl rfl rfl) (gB rfl rfl rfl rfl) rfl rfl (fun h5_19 => ?_) (fun h5_19 => ?_)
      ·have k5_19 := bne_iff_ne.1 h5_19
       refine zz ?_
       refine zo ((show OpOK _ _ _ _ _ (aggS (qsC a)) from ok_load_own_agg 1 rfl rfl rfl (by kernel_rfl) rfl)) ?_
       refine zo ((ok_build rfl rfl (by kernel_rfl)).sub nil_qs) ?_
       refine zo ((ok_call rfl rfl told12_spec).sub (bool_eq (c := true) (decide_eq_true (hca k5_19)))) ?_
       iterate 5 refine zz ?_
       refine zo ((ok_cmp rfl rfl rfl rfl).sub (bool_eq (c := false) (decide_eq_false (by omega)))) ?_
       iterate 3 refine zz ?_
       refine zo ((ok_cmp rfl rfl rfl rfl).sub (bool_eq (c := false) (decide_eq_false (by omega)))) ?_
       refine zz ?_
       refine Run.nil ?_
       exact ent_h zk rfl
      ·have k5_19 := bne_eq_false_iff_eq.1 h5_19
       refine zz ?_
       iterate 4 refine zq ?_
       iterate 4 refine zz ?_
       refine zo ((ok_cmp rfl rfl rfl rfl).sub (bool_eq (c := false) (decide_eq_false (by omega)))) ?_
       iterate 3 refine zz ?_
       refine zo ((ok_cmp rfl rfl rfl rfl).sub (bool_eq (c := false) (decide_eq_false (by omega)))) ?_
       refine zz ?_
       refine Run.nil ?_
       exact ent_h zk rfl
    ·have k5_1 := bne_eq_false_iff_eq.1 h5_1
     refine zz ?_
     iterate 3 refine zq ?_
     iterate 3 refine zz ?_
     refine Run.oneB (ok_cmp rfl rfl rfl rfl) (gB rfl rfl rfl rfl) rfl rfl (fun h5_9 => ?_) (fun h5_9 => ?_)
     ·have k5_9 := beq_iff_eq.1 h5_9
      iterate 2 refine zz ?_
      refine zo ((show OpOK _ _ _ _ _ (aggS (qsC b)) from ok_load_own_agg 0 rfl rfl rfl (by kernel_rfl) rfl)) ?_
      refine zo ((ok_call rfl rfl ((code_spec (hvt k5_9) wk_cap).args (args' := [aggS (qsC b)]) ⟨qs_sc, trivial⟩)).sub (int_eq (n := codeQ b) (by rw [code_nrm, nrm_raw]))) ?_
      refine zo ((ok_cmp rfl rfl rfl rfl).sub (bool_eq (c := false) (by rw [hcq k5_9]; simp))) ?_
      iterate 4 refine zz ?_
      refine Run.oneB (ok_cmp rfl rfl rfl rfl) (gB rfl rfl rfl rfl) rfl rfl (fun h5_19 => ?_) (fun h5_19 => ?_)
      ·have k5_19 := bne_iff_ne.1 h5_19
       refine zz ?_
       refine zo ((show OpOK _ _ _ _ _ (aggS (qsC a)) from ok_load_own_agg 1 rfl rfl rfl (by kernel_rfl) rfl)) ?_
       refine zo ((ok_build rfl rfl (by kernel_rfl)).sub nil_qs) ?_
       refine zo ((ok_call rfl rfl told12_spec).sub (bool_eq (c := true) (decide_eq_true (hca k5_19)))) ?_
       iterate 5 refine zz ?_
       refine zo ((ok_cmp rfl rfl rfl rfl).sub (bool_eq (c := false) (decide_eq_false (by omega)))) ?_
       iterate 3 refine zz ?_
       refine zo ((ok_cmp rfl rfl rfl rfl).sub (bool_eq (c := false) (decide_eq_false (by omega)))) ?_
       refine zz ?_
       refine Run.nil ?_
       exact ent_h zk rfl
      ·have k5_19 := bne_eq_false_iff_eq.1 h5_19
       refine zz ?_
       iterate 4 refine zq ?_
       iterate 4 refine zz ?_
       refine zo ((ok_cmp rfl rfl rfl rfl).sub (bool_eq (c := false) (decide_eq_false (by omega)))) ?_
       iterate 3 refine zz ?_
       refine zo ((ok_cmp rfl rfl rfl rfl).sub (bool_eq (c := false) (decide_eq_false (by omega)))) ?_
       refine zz ?_
       refine Run.nil ?_
       exact ent_h zk rfl
     ·have k5_9 := beq_eq_false_iff_ne.1 h5_9
      refine zz ?_
      iterate 4 refine zq ?_
      iterate 4 refine zz ?_
      refine Run.oneB (ok_cmp rfl rfl rfl rfl) (gB rfl rfl rfl rfl) rfl rfl (fun h5_19 => ?_) (fun h5_19 => ?_)
      ·have k5_19 := bne_iff_ne.1 h5_19
       refine zz ?_
       refine zo ((show OpOK _ _ _ _ _ (aggS (qsC a)) from ok_load_own_agg 1 rfl rfl rfl (by kernel_rfl) rfl)) ?_
       refine zo ((ok_build rfl rfl (by kernel_rfl)).sub nil_qs) ?_
       refine zo ((ok_call rfl rfl told12_spec).sub (bool_eq (c := true) (decide_eq_true (hca k5_19)))) ?_
       iterate 5 refine zz ?_
       refine zo ((ok_cmp rfl rfl rfl rfl).sub (bool_eq (c := false) (decide_eq_false (by omega)))) ?_
       iterate 3 refine zz ?_
       refine zo ((ok_cmp rfl rfl rfl rfl).sub (bool_eq (c := false) (decide_eq_false (by omega)))) ?_
       refine zz ?_
       refine Run.nil ?_
       exact ent_h zk rfl
      ·have k5_19 := bne_eq_false_iff_eq.1 h5_19
       refine zz ?_
       iterate 4 refine zq ?_
       iterate 4 refine zz ?_
       refine zo ((ok_cmp rfl rfl rfl rfl).sub (bool_eq (c := false) (decide_eq_false (by omega)))) ?_
       iterate 3 refine zz ?_
       refine zo ((ok_cmp rfl rfl rfl rfl).sub (bool_eq (c := false) (decide_eq_false (by omega)))) ?_
       refine zz ?_
       refine Run.nil ?_
       exact ent_h zk rfl
   ·intro S1 hS1
    refine T_pre hS1 ?_
    refine T_cond rfl rfl (fun h65 => ?_) (fun h65 => ?_)
    ·exact absurd h65 (by decide)
    ·refine T_skip ?_
     refine T_ghost (ghost_drop (List.nil_sublist _)) ?_
     obtain ⟨tp1, tp2⟩ := text_print (nrm s)
     have hpr := rprint12_spec (G := G) hok (by decide) (by decide)
     have hpl := text_le hok (by decide)
     rw [scT_eq] at hpr hpl
     obtain ⟨u, hu⟩ : ∃ u, u = prT (nrm s) := ⟨_, rfl⟩
     rw [← hu] at hpr hpl tp1 tp2
     have hvu : (parseF u).2 = 0 → VOk (rawS (parseF u).1) 6 := fun h => by
      rw [hu] at h ⊢
      rw [parse_print h]; exact vok_of (norm_ok hok) (by decide)
     have htu := vText_spec (G := G) (t := u) (by omega) hvu hs6
     obtain ⟨⟨d, n⟩, hdn⟩ : ∃ x, textF u = x := ⟨_, rfl⟩
     rw [hdn] at htu tp1 tp2
     obtain ⟨m, hm⟩ : ∃ m, m = codeQ (nrm s) := ⟨_, rfl⟩
     have hdg := rdigits_spec (G := G) hok (by decide) (by decide)
     rw [← qsPts_nrm] at hdg
     obtain ⟨D, hD⟩ : ∃ D, D = dgF 0 (qsPts (nrm s)) := ⟨_, rfl⟩
     rw [← hD] at hdg tp1 tp2
     rw [← hm] at tp1 tp2
     refine T_regionS ?_
     refine zo ((show OpOK _ _ _ _ _ (aggS (scC s)) from ok_load_agg rfl rfl rfl rfl)) ?_
     refine zf hpr ?_
     refine zf htu ?_
     iterate 3 refine zz ?_
     refine Run.alloc rfl rfl rfl rfl rfl fun b9 => ?_
     refine zw ?_
     refine zz ?_
     refine zx ?_
     refine zo ((show OpOK _ _ _ _ _ (aggS (scC s)) from ok_load_agg rfl rfl rfl rfl)) ?_
     refine zo ((ok_call rfl rfl (code_spec hv hs6)).sub (int_eq (n := m) (by rw [code_nrm, hm]))) ?_
     refine zz ?_
     refine Run.nil ?_
     refine T_seq ?_
     refine T_seqQ (K := fun S1 => ∃ w : Bool, (w = true ↔ (m = 0 ∧ D ≤ 6)) ∧ Ent S1 ⟨97, [(80, boolS w), (10, intS .i64 n), (9, eqS (.pointer (some ⟨b9, 0, none⟩))), (2, ptrS (scC s))], [⟨some b9, 54, qsC d, 0⟩], [], (0, false)⟩) ?_ ?_
     ·refine T_region ?_
      refine zz ?_
      refine Run.oneB (ok_cmp rfl rfl rfl rfl) rfl rfl rfl (fun h9_1 => ?_) (fun h9_1 => ?_)
      ·have k9_1 := beq_iff_eq.1 h9_1
       refine zz ?_
       refine zo ((show OpOK _ _ _ _ _ (aggS (scC s)) from ok_load_agg rfl rfl rfl rfl)) ?_
       refine zf hdg ?_
       iterate 2 refine zz ?_
       refine Run.nil ?_
       exact ⟨_, (by rw [decide_eq_true_iff]; exact ⟨fun h => ⟨k9_1, by omega⟩, fun h => by omega⟩), ent_h (subG_cons rfl (subG_cons rfl (subG_cons rfl (subG_cons rfl (trivial))))) rfl⟩
      ·have k9_1 := beq_eq_false_iff_ne.1 h9_1
       refine zz ?_
       iterate 3 refine zq ?_
       refine zz ?_
       refine Run.nil ?_
       exact ⟨false, ⟨fun h => (by cases h), fun h => absurd h.1 k9_1⟩, ent_h (subG_cons rfl (subG_cons rfl (subG_cons rfl (subG_cons rfl (trivial))))) rfl⟩
     ·rintro S1 ⟨w2, hw2, hS1⟩
      refine T_pre hS1 ?_
      refine T_cond rfl rfl (fun h80 => ?_) (fun h80 => ?_)
      ·obtain ⟨tp3, _⟩ := tp1 (hw2.1 h80)
       cases tp3
       refine T_drawS 12 (by kernel_rfl) ?_
       refine zz ?_
       refine zo ((ok_cmp rfl rfl rfl rfl).sub (bool_eq (c := true) (rfl))) ?_
       refine zz ?_
       refine zo ((show OpOK _ _ _ _ _ (aggS (qsC (nrm s))) from ok_load_own_agg 0 rfl rfl rfl (by kernel_rfl) rfl)) ?_
       refine zo ((show OpOK _ _ _ _ _ (aggS (scC s)) from ok_load_agg rfl rfl rfl rfl)) ?_
       refine zo (ok_call rfl rfl (rnorm12_spec hok (by decide) (by decide))) ?_
       refine zo ((ok_call rfl rfl told12_spec).sub (bool_eq (c := true) (decide_eq_true rfl))) ?_
       iterate 2 refine zz ?_
       refine zf wakes14_spec ?_
       iterate 2 refine zz ?_
       iterate 2 refine Run.nil ?_
       refine T_ret ?_
       exact ⟨_, [], .one (.tmp rfl), List.nil_sublist _, rfl, rfl⟩
      ·have hn0 := tp2 (fun h => Bool.false_ne_true (h80.symm.trans (hw2.2 h)))
       refine T_skip ?_
       refine T_regionS ?_
       refine zz ?_
       refine zo ((ok_cmp rfl rfl rfl rfl).sub (bool_eq (c := true) (bne_iff_ne.2 hn0))) ?_
       refine zz ?_
       refine zf wakes14_spec ?_
       iterate 2 refine zz ?_
       refine Run.nil ?_
       refine T_ret ?_
       exact ⟨_, [], .one (.tmp rfl), List.nil_sublist _, rfl, rfl⟩
end Go.Proofs
