/- Codes of scenes and texts; what the document says of three robots; the law ValidFirst, on the facts. -/
import Derived.Test.YtofplgefmjojjaaGreatDoorSgi
import Derived.Test.YtofplgefmjojjaaGreatDoorSge
import Derived.Test.YtofplgefmjojjaaGreatDoorSci
namespace Num
open Go Go.Proofs
def codeQ (q : QS) : Int :=
 if (inB q.1.length 6 && decide (q.2.1.length ≤ 4) && !(q.2.1.any fun r => !inB r.length 6) && decide ((q.2.1.map fun r => r.length - 2).sum ≤ 6) && decide (q.2.2.length ≤ 8)) = false then 4
 else if cvxB q.1 = false then 5 else if (!(q.2.1.any fun r => !simB r)) = false then 6 else 0
theorem code_nrm (s : Sc) : codeF s = codeQ (nrm s) := by
 have h0 : clB s 0 = (inB (nrm s).1.length 6 && decide ((nrm s).2.1.length ≤ 4) && !((nrm s).2.1.any fun r => !inB r.length 6) && decide (((nrm s).2.1.map fun r => r.length - 2).sum ≤ 6) && decide ((nrm s).2.2.length ≤ 8)) := by
  show cntB s = _
  unfold cntB tris nrm pvs
  simp only [List.length_map, List.any_map, List.map_map, Function.comp_def]
 have h1 : clB s 1 = cvxB (nrm s).1 := rfl
 have h2 : clB s 2 = !((nrm s).2.1.any fun r => !simB r) := by
  show (!(s.2.1.any fun r => !simB (r.map pv))) = _
  unfold nrm
  rw [List.any_map]; rfl
 unfold codeF codeQ
 rw [h0, h1, h2]
def textF (t : List UInt8) : QS × Int :=
 if (parseF t).2 = 0 then (if codeQ (parseF t).1 = 0 then ((parseF t).1, 0) else (([], [], []), codeQ (parseF t).1)) else (([], [], []), (parseF t).2)
end Num
namespace Go.Proofs
open Go Go.Sv Num
variable {G : Imm}
theorem vok_of {s : Sc} {k n : Nat} (h : ScOk s k n) (hn : n ≤ 1000000) : VOk s k := by
 have h1 := h.row
 rw [scL_len] at h1
 have h2 := h.lrow (mem_rob s)
 exact ⟨h.pos, h.pt _ (mem_rob s), fun r hr => h.pt _ (mem_obs hr), by simp only at h2; omega, by omega, fun r hr => by have := h.lrow (mem_obs hr); simp only at this; omega, by omega⟩
theorem robW (l : List V2) (I : Imm) (v : Value) (h : (aggS [slS 6 id (l.map pcan), eqS (.slice none 0 0), eqS (.slice none 0 0)]).den I v) : (aggS (scC (l.map rep, [], []))).den I v :=
 sc_rob I v (agg_sub (cs := [slS 6 id (l.map pcan), eqS (.slice none 0 0), eqS (.slice none 0 0)]) (ds := [slS 6 pc (l.map rep), eqS (.slice none 0 0), eqS (.slice none 0 0)]) ⟨fun I v h => sl_rep (sl_pair (f := pcan) l h), fun _ _ h => h, fun _ _ h => h, trivial⟩ I v h)
theorem w_code {l : List V2} {c : Int} [Tab G] (hl : ∀ p ∈ l.map rep, PtOk 1 p) (hc : l.length ≤ 1000) (h : codeQ (l, [], []) = c) : PSpec Tryz.prog G 33 [aggS (scC (l.map rep, [], []))] (intS .i64 c) := by
 have h1 := code_spec (G := G) (s := (l.map rep, [], [])) (k := 1) ⟨by decide, hl, fun r hr => by simp at hr, by simp; omega, (show 0 ≤ 1000000 by decide), fun r hr => by simp at hr, (show 0 ≤ 1000000 by decide)⟩ wk_cap
 rw [code_nrm, show nrm (l.map rep, [], []) = (l, [], []) by unfold nrm pvs; rw [map_rep]; rfl, h] at h1
 exact h1
abbrev V1 : List V2 := [(0, 0), (1, 0), (0, 1)]
abbrev V2' : List V2 := [(0, 0), (0, 1), (1, 0)]
abbrev V3 : List V2 := [(0, 0), (1, 0)]
theorem v_small : ∀ p ∈ V1 ++ V2' ++ V3, (p.1.num.natAbs < 4294967296 ∧ p.1.den < 4294967296) ∧ p.2.num.natAbs < 4294967296 ∧ p.2.den < 4294967296 := by decide +kernel
theorem v_bq : ∀ p ∈ V1 ++ V2' ++ V3, Bq p.1 1 ∧ Bq p.2 1 := fun p hp => by
 have h := v_small p hp
 exact ⟨⟨by rw [Nat.pow_one]; exact h.1.1, by rw [Nat.pow_one]; exact h.1.2⟩, ⟨by rw [Nat.pow_one]; exact h.2.1, by rw [Nat.pow_one]; exact h.2.2⟩⟩
theorem v1_ok : ∀ p ∈ V1.map rep, PtOk 1 p := ok_rep fun p hp => v_bq p (List.mem_append.2 (.inl (List.mem_append.2 (.inl hp))))
theorem v2_ok : ∀ p ∈ V2'.map rep, PtOk 1 p := ok_rep fun p hp => v_bq p (List.mem_append.2 (.inl (List.mem_append.2 (.inr hp))))
theorem v3_ok : ∀ p ∈ V3.map rep, PtOk 1 p := ok_rep fun p hp => v_bq p (List.mem_append.2 (.inr hp))
abbrev T1 : List UInt8 := [114, 111, 98, 111, 116, 32, 48, 32, 48, 32, 49, 32, 48, 32, 48, 32, 49, 10]
abbrev T2 : List UInt8 := [114, 111, 98, 111, 116, 32, 48, 32, 48, 10]
theorem p_t1 : parseF T1 = ((V1, [], []), 0) := by decide +kernel
theorem p_t2 : parseF T2 = (([(0, 0)], [], []), 0) := by decide +kernel
theorem raw_v {l : List V2} (h : ∀ p ∈ l, Bq p.1 1 ∧ Bq p.2 1) (hl : l.length ≤ 10) : VOk (rawS (l, [], [])) 1 :=
 vok_of (n := 10) (raw_scok (by decide) (fun p hp => h p (by simpa [qsPts] using hp)) (by simpa [qsPts] using hl) (show 0 + 0 + 1 ≤ 10 by decide)) (by decide)
theorem vText_spec [Tab G] [MaxLen G] {t : List UInt8} {k : Nat} (ht : t.length ≤ 1000000000) (hv : (parseF t).2 = 0 → VOk (rawS (parseF t).1) k) (hs : 100000 * k + 100000 ≤ cap) : PSpec Tryz.prog G 30 [strS t] (tupS [aggS (qsC (textF t).1), intS .i64 (textF t).2]) := by
 have hp := parse12_spec (G := G) ht
 obtain ⟨⟨q, c⟩, hq⟩ : ∃ x, x = parseF t := ⟨_, rfl⟩
 have htf : textF t = if c = 0 then (if codeQ q = 0 then (q, 0) else (([], [], []), codeQ q)) else (([], [], []), c) := by unfold textF; rw [← hq]
 rw [← hq] at hp hv
 rw [htf]
 simp only at hp hv ⊢
 refine zs Tryz.func30 ?_;refine zr ?_;refine zzv fun b2 => ?_;refine zz ?_;refine zx ?_;refine zz ?_;refine zf hp ?_;(iterate 3 refine zz ?_);refine zzv fun b4 => ?_;refine zw ?_;refine zz ?_;refine zzn ?_;refine T_seqQ (K := fun S1 => ∃ e : Int, e = (if c = 0 then codeQ q else c) ∧ Ent S1 ⟨20, [(5, intS .i64 e), (4, eqS (.pointer (some ⟨b4, 0, none⟩))), (2, eqS (.pointer (some ⟨b2, 0, none⟩)))], [⟨some b4, 54, qsC q, 0⟩, ⟨some b2, 54, [eqS (.slice none 0 0), eqS (.slice none 0 0), eqS (.slice none 0 0)], 0⟩], [], (0, false)⟩) ?_ ?_
 ·refine zr ?_;(iterate 2 refine zz ?_);refine zzn ?_;refine zzc (fun h12 => ?_) fun h12 => ?_
  ·have k12 := beq_iff_eq.1 h12
   refine T_region ?_;refine zo ((show OpOK _ _ _ _ _ (aggS (qsC q)) from ok_load_own_agg 0 rfl rfl rfl (by kernel_rfl) rfl)) ?_;refine zo ((ok_call rfl rfl ((code_spec (hv k12) hs).args (args' := [aggS (qsC q)]) ⟨qs_sc, trivial⟩)).sub (int_eq (by rw [code_nrm, nrm_raw]))) ?_;refine zz ?_;refine zzn ?_
   exact ⟨_, by rw [if_pos k12], ent_h (subG_cons rfl (subG_cons rfl (subG_cons rfl (trivial)))) rfl⟩
  ·have k12 := beq_eq_false_iff_ne.1 h12
   refine T_skip ?_
   exact ⟨_, by rw [if_neg k12], ent_h (subG_cons rfl (subG_cons rfl (subG_cons rfl (trivial)))) rfl⟩
 ·rintro S1 ⟨e, he, hS1⟩
  refine T_pre hS1 ?_;refine T_seq ?_;refine zr ?_;(iterate 2 refine zz ?_);refine zzn ?_;refine zzc (fun h16 => ?_) fun h16 => ?_
  ·have k16 := bne_iff_ne.1 h16
   have hne : ¬ (c = 0 ∧ codeQ q = 0) := fun h => k16 (by rw [he, if_pos h.1, h.2])
   refine zr ?_;refine zo ((show OpOK _ _ _ _ _ (aggS (qsC ([], [], []))) from (ok_build rfl rfl (by kernel_rfl)).sub nil_qs)) ?_;refine zz ?_;refine zw ?_;refine zz ?_;refine zzn ?_;refine T_ret ?_
   exact ⟨_, [], .many (.cons (.agg 1 inferInstance rfl rfl rfl rfl) (.cons (.tmp rfl) (.nil))), List.nil_sublist _, by by_cases h0 : c = 0; rw [if_pos h0, if_neg (fun h => hne ⟨h0, h⟩)]; rw [if_pos h0] at he; rw [he]; rfl; rw [if_neg h0] at he ⊢; rw [he]; rfl, rfl⟩
  ·have k16 := bne_eq_false_iff_eq.1 h16
   have hc0 : c = 0 := Classical.byContradiction fun h => by rw [if_neg h] at he; exact h (he.symm.trans k16)
   have hq0 : codeQ q = 0 := by rw [if_pos hc0] at he; exact he.symm.trans k16
   refine T_skip ?_;refine zr ?_;refine zo ((show OpOK _ _ _ _ _ (aggS (qsC q)) from ok_load_own_agg 0 rfl rfl rfl (by kernel_rfl) rfl)) ?_;refine zw ?_;refine zz ?_;refine zzn ?_;refine T_ret ?_
   exact ⟨_, [], .many (.cons (.agg 1 inferInstance rfl rfl rfl rfl) (.cons (.tmp rfl) (.nil))), List.nil_sublist _, by rw [if_pos hc0, if_pos hq0]; rfl, rfl⟩
theorem text_t1 [Tab G] [MaxLen G] : PSpec Tryz.prog G 30 [strS T1] (tupS [aggS (qsC (V1, [], [])), intS .i64 0]) := by
 have h := vText_spec (G := G) (t := T1) (k := 1) (by decide) (fun _ => by rw [p_t1]; exact raw_v (fun p hp => v_bq p (List.mem_append.2 (.inl (List.mem_append.2 (.inl hp))))) (by decide)) wk_cap
 rw [show textF T1 = ((V1, [], []), 0) by unfold textF; rw [p_t1]; decide +kernel] at h
 exact h
theorem text_t2 [Tab G] [MaxLen G] : PSpec Tryz.prog G 30 [strS T2] (tupS [aggS (qsC ([], [], [])), intS .i64 4]) := by
 have h := vText_spec (G := G) (t := T2) (k := 1) (by decide) (fun _ => by rw [p_t2]; exact raw_v (fun p hp => by rw [List.mem_singleton.1 hp]; exact ⟨bq_zero, bq_zero⟩) (by decide)) wk_cap
 rw [show textF T2 = (([], [], []), 4) by unfold textF; rw [p_t2]; decide +kernel] at h
 exact h
theorem wakes14_spec [Tab G] [MaxLen G] : PSpec Tryz.prog G 29 [] (boolS true) := by
 refine zs Tryz.func29 ?_;refine zr ?_;refine zz ?_;refine zx ?_;refine zo (ok_call rfl rfl (rpOf_spec (n := 0) (m := 0) (p := 0) (q := 0) (by decide) (by decide) (by decide) (by decide))) ?_;refine zo (ok_call rfl rfl (rpOf_spec (n := 1) (m := 0) (p := 1) (q := 0) (by decide) (by decide) (by decide) (by decide))) ?_;refine zo (ok_call rfl rfl (rpOf_spec (n := 0) (m := 1) (p := 0) (q := 1) (by decide) (by decide) (by decide) (by decide))) ?_;refine zzv fun b1 => ?_;refine zzv fun b2 => ?_;refine zzv fun b3 => ?_;(iterate 3 refine zw ?_);refine zx ?_;refine zf text_t1 ?_;(iterate 3 refine zz ?_);refine zzv fun b4 => ?_;refine zw ?_;refine zz ?_;refine zx ?_;refine zf text_t2 ?_;(iterate 3 refine zz ?_);refine zzv fun b6 => ?_;refine zw ?_;refine zz ?_;refine zx ?_;refine zo ((show OpOK _ _ _ _ _ (aggS (pcan ((0 : Rat), (0 : Rat)))) from ok_load_own_agg 4 rfl rfl rfl (by kernel_rfl) rfl)) ?_;refine zo ((show OpOK _ _ _ _ _ (aggS (pcan ((1 : Rat), (0 : Rat)))) from ok_load_own_agg 3 rfl rfl rfl (by kernel_rfl) rfl)) ?_;refine zo ((show OpOK _ _ _ _ _ (aggS (pcan ((0 : Rat), (1 : Rat)))) from ok_load_own_agg 2 rfl rfl rfl (by kernel_rfl) rfl)) ?_;refine zo (ok_buildSlice rfl rfl (by decide) rfl (by simp) (by kernel_rfl) (by kernel_rfl)) ?_;refine zo ((ok_build rfl rfl rfl).sub (robW V1)) ?_;refine zo (ok_call rfl rfl (w_code v1_ok (by decide) (c := 0) (by decide +kernel))) ?_;(iterate 2 refine zz ?_);refine zo ((show OpOK _ _ _ _ _ (aggS (pcan ((0 : Rat), (0 : Rat)))) from ok_load_own_agg 4 rfl rfl rfl (by kernel_rfl) rfl)) ?_;refine zo ((show OpOK _ _ _ _ _ (aggS (pcan ((0 : Rat), (1 : Rat)))) from ok_load_own_agg 2 rfl rfl rfl (by kernel_rfl) rfl)) ?_;refine zo ((show OpOK _ _ _ _ _ (aggS (pcan ((1 : Rat), (0 : Rat)))) from ok_load_own_agg 3 rfl rfl rfl (by kernel_rfl) rfl)) ?_;refine zo (ok_buildSlice rfl rfl (by decide) rfl (by simp) (by kernel_rfl) (by kernel_rfl)) ?_;refine zo ((ok_build rfl rfl rfl).sub (robW V2')) ?_;refine zo (ok_call rfl rfl (w_code v2_ok (by decide) (c := 5) (by decide +kernel))) ?_;(iterate 3 refine zz ?_);refine zo ((show OpOK _ _ _ _ _ (aggS (pcan ((0 : Rat), (0 : Rat)))) from ok_load_own_agg 4 rfl rfl rfl (by kernel_rfl) rfl)) ?_;refine zo ((show OpOK _ _ _ _ _ (aggS (pcan ((1 : Rat), (0 : Rat)))) from ok_load_own_agg 3 rfl rfl rfl (by kernel_rfl) rfl)) ?_;refine zo (ok_buildSlice rfl rfl (by decide) rfl (by simp) (by kernel_rfl) (by kernel_rfl)) ?_;refine zo ((ok_build rfl rfl rfl).sub (robW V3)) ?_;refine zo (ok_call rfl rfl (w_code v3_ok (by decide) (c := 4) (by decide +kernel))) ?_;(iterate 17 refine zz ?_);refine zo (ok_buildSlice rfl rfl (by decide) rfl (by simp) rfl rfl) ?_;refine zo ((ok_call rfl rfl ((first_spec (ns := [0, 5, 3, 0])).args (args' := [slS 1 id ([0, 5, 3, 0].map i64C)]) ⟨fun _ _ h => sl_pair (f := i64C) [0, 5, 3, 0] h, trivial⟩)).sub (int_eq (n := 3) (by decide))) ?_;(iterate 3 refine zz ?_);refine zzn ?_;refine T_ret ?_
 exact ⟨_, [], .one (.tmp rfl), List.nil_sublist _, rfl, rfl⟩
end Go.Proofs
