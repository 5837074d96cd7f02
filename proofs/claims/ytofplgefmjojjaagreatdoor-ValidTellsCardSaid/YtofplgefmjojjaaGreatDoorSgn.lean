/- straitref12: a line's row. -/
import Derived.Test.YtofplgefmjojjaaGreatDoorSgj
import Derived.Test.YtofplgefmjojjaaGreatDoorSsn
namespace Num
open Go Go.Lib Go.Proofs
def worR (a b : Int) : Int := if a = 0 then b else if b = 0 then a else min a b
theorem worR_eq {a b : Int} (h : b ≠ 0) : worR a b = worF a b := by unfold worR worF; split <;> (try split) <;> (try split) <;> omega
def kindF (w : List UInt8) : Int := if w = wRob then 0 else if w = wObs then 1 else if w = wQue then 2 else -1
def rowM (w : List UInt8) (r : List (List UInt8)) : Int × List Rat × Int :=
 if kindF w < 0 ∨ (kindF w = 2 ∧ r.length ≠ 4) ∨ r.length % 2 ≠ 0 ∨ r.length = 0 then (kindF w, [], 1)
 else if r.all gdW then (kindF w, r.map fun x => (num3 x).1, cdF 0 r) else (kindF w, [], 1)
def rowK (s : List UInt8) : Int × List Rat × Int := if ful (spl 32 s) then (match spl 32 s with | w :: r => rowM w r | [] => (-1, [], 1)) else (-1, [], 1)
def prN (ns : List Rat) (g : Nat) : List V2 := perL g fun i => (ns.getD (2 * i) 0, ns.getD (2 * i + 1) 0)
theorem prN_succ (ns : List Rat) (g : Nat) : prN ns (g + 1) = prN ns g ++ [(ns.getD (2 * g) 0, ns.getD (2 * g + 1) 0)] := perL_succ ..
theorem prN_len (ns : List Rat) (g : Nat) : (prN ns g).length = g := perL_length ..
theorem prN_pts (r : List (List UInt8)) : ∀ g, 2 * g ≤ r.length → prN (r.map fun x => (num3 x).1) g = ptsF (r.take (2 * g))
  | 0, _ => rfl
  | g + 1, h => by
    obtain ⟨a, ha⟩ : ∃ a, r[2 * g]? = some a := ⟨_, List.getElem?_eq_getElem (by omega)⟩
    obtain ⟨b, hb⟩ : ∃ b, r[2 * g + 1]? = some b := ⟨_, List.getElem?_eq_getElem (by omega)⟩
    rw [prN_succ, prN_pts r g (by omega), show 2 * (g + 1) = 2 * g + 1 + 1 by omega, take_snoc hb, take_snoc ha, List.append_assoc]
    rw [show [a] ++ [b] = [a, b] from rfl, pts_two _ _ _ (take_even (by omega) (by omega))]
    rw [List.getD_eq_getElem?_getD, List.getD_eq_getElem?_getD, List.getElem?_map, List.getElem?_map, ha, hb]; rfl
theorem prN_all {r : List (List UInt8)} (h : r.length % 2 = 0) : prN (r.map fun x => (num3 x).1) (r.length / 2) = ptsF r := by
 rw [prN_pts r _ (by omega), show 2 * (r.length / 2) = r.length by omega, List.take_length]
theorem rdW_vals (k : Int) (x : List UInt8) : rdW k x = worR k (rdW 0 x) := by
 have e : ∀ c : Int, c ≠ 0 → worF k c = worR k (worF 0 c) := fun c hc => by rw [← worR_eq hc, ← worR_eq (a := 0) hc]; unfold worR; simp
 unfold rdW
 split
 ·exact e 2 (by decide)
 ·split
  ·exact e 3 (by decide)
  ·unfold worR; split <;> simp_all
theorem worR_assoc (a b c : Int) : worR (worR a b) c = worR a (worR b c) := by unfold worR; split <;> split <;> (try split) <;> (try split) <;> omega
theorem cdF_worR : ∀ (r : List (List UInt8)) (k : Int), cdF k r = worR k (cdF 0 r)
  | [], k => by unfold cdF worR; simp
  | x :: r, k => by
    show cdF (rdW k x) r = worR k (cdF (rdW 0 x) r)
    rw [cdF_worR r (rdW k x), cdF_worR r (rdW 0 x), rdW_vals k x, worR_assoc]
theorem rdW_ne {k : Int} (h : k = 0 ∨ k = 2 ∨ k = 3) (x : List UInt8) : rdW k x = 0 ∨ rdW k x = 2 ∨ rdW k x = 3 := by
 unfold rdW worF; split <;> (try split) <;> (try split) <;> omega
theorem cdF_ne : ∀ (r : List (List UInt8)) {k : Int}, (k = 0 ∨ k = 2 ∨ k = 3) → cdF k r = 0 ∨ cdF k r = 2 ∨ cdF k r = 3
 | [], _, h => h
 | x :: r, _, h => cdF_ne r (rdW_ne h x)
theorem gdW_take {r : List (List UInt8)} {g : Nat} {x : List UInt8} (h : r[g]? = some x) (hx : gdW x = true) (hn : (r.take g).all gdW = true) : (r.take (g + 1)).all gdW = true := by
 rw [take_snoc h, List.all_append, hn]; simp [hx]
end Num
namespace Go.Proofs
open Go Go.Sv Num
variable {G : Imm}
abbrev q3 (q : Rat) : List SV := canQ q
theorem flatQ3 : ∀ l : List Rat, (l.flatMap q3).length = l.length * 3
 | [] => rfl
 | x :: l => by rw [List.flatMap_cons, List.length_append, flatQ3 l]; show 3 + l.length * 3 = (l.length + 1) * 3; omega
theorem nil_q3 {l : List Rat} (h : l = []) (I : Imm) (v : Value) (hv : (eqS (.slice none 0 0)).den I v) : (slS 3 q3 l).den I v := by subst h; cases hv; exact nil_sl
theorem rworse_spec {a b : Int} : PSpec Tryz.prog G 84 [intS .i64 a, intS .i64 b] (intS .i64 (worR a b)) := by
 refine zs Tryz.func84 ?_;refine zr ?_;refine zz ?_;refine zzn ?_;refine T_seq ?_;refine zr ?_;(iterate 2 refine zz ?_);refine zzn ?_;refine zzc (fun h6 => ?_) fun h6 => ?_
 ·have k6 := beq_iff_eq.1 h6
  refine zr ?_;(iterate 2 refine zz ?_);refine zzn ?_;refine T_ret ?_
  exact ⟨_, [], .one (.tmp rfl), List.nil_sublist _, by unfold worR; rw [if_pos k6], rfl⟩
 ·have k6 := beq_eq_false_iff_ne.1 h6
  refine T_skip ?_;refine T_seq ?_;refine zr ?_;(iterate 2 refine zz ?_);refine zzn ?_;refine zzc (fun h9 => ?_) fun h9 => ?_
  ·have k9 := beq_iff_eq.1 h9
   refine zr ?_;(iterate 2 refine zz ?_);refine zzn ?_;refine T_ret ?_
   exact ⟨_, [], .one (.tmp rfl), List.nil_sublist _, by unfold worR; rw [if_neg k6, if_pos k9], rfl⟩
  ·have k9 := beq_eq_false_iff_ne.1 h9
   refine T_skip ?_;refine zr ?_;(iterate 4 refine zz ?_);refine zzn ?_;refine T_ret ?_
   exact ⟨_, [], .one (.tmp rfl), List.nil_sublist _, by unfold worR; rw [if_neg k6, if_neg k9], rfl⟩
theorem rkind_spec {w : List UInt8} : PSpec Tryz.prog G 126 [strS w] (intS .i64 (kindF w)) := by
 refine zs Tryz.func126 ?_;refine zr ?_;refine zz ?_;refine zzn ?_;refine T_seq ?_;refine zr ?_;refine zz ?_;refine zzn ?_;refine T_block ?_;refine zr ?_;refine zo (ok_cmp_str rfl rfl rfl rfl) ?_;refine zz ?_;refine zzn ?_;refine zzc (fun h4 => ?_) fun h4 => ?_
 ·refine zr ?_;refine zz ?_;refine zzn ?_;refine T_ret ?_
  exact ⟨_, [], .one (.tmp rfl), List.nil_sublist _, by unfold kindF; rw [if_pos (show w = wRob by simpa using h4)], rfl⟩
 ·have n1 : ¬ w = wRob := by simpa using h4
  refine zr ?_;refine zo (ok_cmp_str rfl rfl rfl rfl) ?_;refine zz ?_;refine zzn ?_;refine zzc (fun h6 => ?_) fun h6 => ?_
  ·refine zr ?_;refine zz ?_;refine zzn ?_;refine T_ret ?_
   exact ⟨_, [], .one (.tmp rfl), List.nil_sublist _, by unfold kindF; rw [if_neg n1, if_pos (show w = wObs by simpa using h6)], rfl⟩
  ·have n2 : ¬ w = wObs := by simpa using h6
   refine zr ?_;refine zo (ok_cmp_str rfl rfl rfl rfl) ?_;refine zz ?_;refine zzn ?_;refine zzc (fun h8 => ?_) fun h8 => ?_
   ·refine zr ?_;refine zz ?_;refine zzn ?_;refine T_ret ?_
    exact ⟨_, [], .one (.tmp rfl), List.nil_sublist _, by unfold kindF; rw [if_neg n1, if_neg n2, if_pos (show w = wQue by simpa using h8)], rfl⟩
   ·have n3 : ¬ w = wQue := by simpa using h8
    refine T_skip ?_;refine zr ?_;refine zz ?_;refine zzn ?_;refine T_ret ?_
    exact ⟨_, [], .one (.tmp rfl), List.nil_sublist _, by unfold kindF; rw [if_neg n1, if_neg n2, if_neg n3], rfl⟩
theorem rpts_spec {ns : List Rat} (hb : ∀ q ∈ ns, Bq q 7) (hl : ns.length ≤ 2000) : PSpec Tryz.prog G 85 [slS 3 q3 ns] (slS 6 pcan (prN ns (ns.length / 2))) := by
 refine zs Tryz.func85 ?_;refine zr ?_;refine zz ?_;refine zx ?_;refine zz ?_;refine zzn ?_;refine T_seq ?_;refine zr ?_;refine zz ?_;refine zzn ?_;refine T_block ?_;refine T_ghost (ghost_row 30 6) ?_;refine T_loop2 (fun (g : Nat) (q : Option (Nat × Nat)) => ⟨27, [(4, intS .i64 (2 * g : Nat)), (3, eqS (rowV q (prN ns g).length)), (0, slS 3 q3 ns)], [rowE q 30 6 (prN ns g).length ((prN ns g).flatMap pcan)], [], (0, false)⟩) (fun g q => 2 * g ≤ ns.length ∧ rowOk q (prN ns g).length) (fun g _ => ns.length - 2 * g) 0 none ⟨Nat.zero_le _, rfl⟩ (ent_h zk rfl) ?_
 rintro g q ⟨hg, hq⟩
 rw [prN_len] at hq ⊢
 refine T_seq ?_;refine zr ?_;refine zz ?_;refine za ((2 * g + 1 : Nat) : Int) ?_;(iterate 3 refine zz ?_);refine zzn ?_;refine zzc (fun h9 => ?_) fun h9 => ?_
 ·have k9 := of_decide_eq_true h9
  have hg1 : 2 * g + 1 < ns.length := by omega
  have e1 : ns[2 * g]? = some (ns.getD (2 * g) 0) := by simp [show 2 * g < ns.length by omega]
  have e2 : ns[2 * g + 1]? = some (ns.getD (2 * g + 1) 0) := by simp [hg1]
  refine T_skip ?_;refine T_seq ?_;refine T_block ?_;refine T_drawM 13 [12] _ (by kernel_rfl) (.cons _ .slnil) ?_;(iterate 3 refine RunE.one (ok_move rfl rfl) rfl rfl rfl (by kernel_rfl) ?_);refine RunE.one (ok_indexAddr rfl rfl rfl (by omega) (y := (ns.getD (2 * g) 0)) (e1)) rfl rfl rfl (by kernel_rfl) ?_;refine RunE.one ((show OpOK _ _ _ _ _ (aggS (canQ (ns.getD (2 * g) 0))) from ok_load_agg rfl rfl rfl rfl)) rfl rfl rfl (by kernel_rfl) ?_;(iterate 2 refine RunE.one (ok_move rfl rfl) rfl rfl rfl (by kernel_rfl) ?_);refine RunE.one (ok_ari (z := ((2 * g + 1 : Nat) : Int)) rfl rfl rfl (congrArg some (by omega)) (wrap_i64 (by omega) (by omega))) rfl rfl rfl (by kernel_rfl) ?_;refine RunE.one (ok_indexAddr rfl rfl rfl (by omega) (y := (ns.getD (2 * g + 1) 0)) (e2)) rfl rfl rfl (by kernel_rfl) ?_;refine RunE.one ((show OpOK _ _ _ _ _ (aggS (canQ (ns.getD (2 * g + 1) 0))) from ok_load_agg rfl rfl rfl rfl)) rfl rfl rfl (by kernel_rfl) ?_;refine RunE.one ((show OpOK _ _ _ _ _ (aggS (pcan (ns.getD (2 * g) 0, ns.getD (2 * g + 1) 0))) from ok_build rfl rfl (by kernel_rfl))) rfl rfl rfl (by kernel_rfl) ?_;refine RunE.one (ok_buildSlice rfl rfl (by decide) rfl (by simp) (by kernel_rfl) (by kernel_rfl)) rfl rfl rfl (by kernel_rfl) ?_
  refine RunE.nil ⟨_, rfl, ?_⟩
  refine EffM.append 0 rfl rfl rfl rfl rfl rfl rfl hq (by rw [flat_pcan, prN_len]) (fun z hz => by rw [List.mem_singleton.1 hz]; rfl) (by unfold big; simp; omega) (by unfold big; simp; omega) fun q24 hq24 => ⟨(.cons _ .slnil), ?_⟩
  refine RunE.nil ?_;refine zz ?_;refine zzn ?_;refine T_region ?_;refine zz ?_;refine za ((2 * (g + 1) : Nat) : Int) ?_;refine zz ?_;refine zzn ?_
  exact ⟨g + 1, q24, ⟨by omega, by rw [prN_len]; exact hq24⟩, by omega, ent_h (subG_cons rfl (subG_as rfl (by rw [prN_len]; rfl) (subG_cons rfl (trivial)))) (by rw [prN_len, prN_succ, List.flatMap_append]; rfl)⟩
 ·have k9 := of_decide_eq_false h9
  obtain hge : g = ns.length / 2 := by omega
  rw [← hge]
  have hmb : ∀ p ∈ (prN ns g).map rep, PtOk 7 p := fun p hp => by
   obtain ⟨v, hv, rfl⟩ := List.mem_map.1 hp
   unfold prN perL at hv
   obtain ⟨i, hi, rfl⟩ := List.mem_map.1 hv
   have hi := List.mem_range.1 hi
   exact ptOk_rep (hb _ (by simp [show 2 * i < ns.length by omega])) (hb _ (by simp [show 2 * i + 1 < ns.length by omega]))
  refine T_exit ?_;refine T_ghost (ghost_sl 0 3 rfl rfl hq (l := prN ns g) (f := pcan) (prN_len ..) rfl (fun _ _ => rfl) (by unfold big; omega)) ?_;refine zr ?_;refine zz ?_
  refine zo (ok_call rfl rfl (show PSpec _ _ _ [slS 6 pcan (prN ns g)] (slS 6 pcan (prN ns g)) from by have h := rpNorm_spec (G := G) (xs := (prN ns g).map rep) (k := 7) (by decide) hmb (by decide) (by rw [List.length_map, prN_len]; unfold cap; omega); rw [map_rep] at h; exact h.args ⟨fun _ _ h => sl_rep h, trivial⟩)) ?_
  refine zz ?_;refine zzn ?_;refine T_ret ?_
  exact ⟨_, [], .one (.tmp rfl), List.nil_sublist _, rfl, rfl⟩
theorem rrow_spec {s : List UInt8} (hs : s.length ≤ 2000) : PSpec Tryz.prog G 83 [strS s] (tupS [intS .i64 (rowK s).1, slS 3 q3 (rowK s).2.1, intS .i64 (rowK s).2.2]) := by
  have hsl := fun p hp => spl_mem (c := 32) (s := s) (p := p) hp
  have hll := spl_len 32 s
  refine zs Tryz.func83 ?_;refine zr ?_;(iterate 3 refine zz ?_);refine zx ?_;refine zz ?_;refine zo (ok_call rfl rfl (rwords_spec (by omega))) ?_;(iterate 5 refine zz ?_);refine zzn ?_;refine T_seq ?_;refine zr ?_;(iterate 2 refine zz ?_);refine zzn ?_;refine zzc (fun h21 => ?_) fun h21 => ?_
  · have k21 := bne_iff_ne.1 h21
    have hf : ful (spl 32 s) = false := by cases h : ful (spl 32 s) with | false => rfl | true => rw [h] at k21; exact absurd rfl k21
    have hk : rowK s = (-1, [], 1) := by unfold rowK; rw [hf]; rfl
    refine zr ?_;refine zz ?_;refine zo ((ok_assign rfl rfl).sub (nil_q3 (l := (rowK s).2.1) (by rw [hk]))) ?_;refine zz ?_;refine zzn ?_;refine T_ret ?_
    exact ⟨_, [], .many (.cons (.tmp rfl) (.cons (.tmp rfl) (.cons (.tmp rfl) (.nil)))), List.nil_sublist _, by rw [hk], rfl⟩
  · have k21 := bne_eq_false_iff_eq.1 h21
    have hf : ful (spl 32 s) = true := by cases h : ful (spl 32 s) with | true => rfl | false => rw [h] at k21; exact absurd k21 (by decide)
    obtain ⟨w, r, hwr⟩ : ∃ w r, spl 32 s = w :: r := by
      cases h : spl 32 s with
      | nil => exact absurd h (spl_ne 32 s)
      | cons w r => exact ⟨w, r, rfl⟩
    have hk : rowK s = rowM w r := by unfold rowK; rw [if_pos hf, hwr]
    rw [if_pos hf, if_pos hf, hwr]
    rw [hwr] at hsl hll
    simp only [List.length_cons] at hll
    rw [hk]
    obtain ⟨K, hK⟩ : ∃ K, K = kindF w := ⟨_, rfl⟩
    have hKb : K = 0 ∨ K = 1 ∨ K = 2 ∨ K = -1 := by rw [hK]; unfold kindF; split; exact .inl rfl; split; exact .inr (.inl rfl); split; exact .inr (.inr (.inl rfl)); exact .inr (.inr (.inr rfl))
    refine T_skip ?_;refine zr ?_;refine zz ?_;refine zo (ok_indexAddr rfl rfl rfl (by omega) (y := w) (rfl)) ?_;refine zz ?_;refine zo ((ok_call rfl rfl rkind_spec).sub (int_eq (n := K) hK.symm)) ?_;refine zz ?_;refine zx ?_;refine zz ?_;refine zo ((ok_len rfl rfl).sub (int_eq (n := ((r.length + 1 : Nat) : Int)) (by simp))) ?_;refine za ((r.length : Nat) : Int) ?_;refine zz ?_;refine zzn ?_;refine T_seq ?_;refine T_seqQ (K := fun S1 => ∃ b : Bool, (b = true ↔ (K < 0 ∨ (K = 2 ∧ r.length ≠ 4) ∨ r.length % 2 ≠ 0 ∨ r.length = 0)) ∧ Ent S1 ⟨85, [(47, boolS b), (8, intS .i64 (r.length : Nat)), (7, intS .i64 K), (5, slS 1 tC (w :: r))], [], [], (0, false)⟩) ?_ ?_
    · refine T_region ?_;refine zz ?_
      refine Run.oneB (ok_cmp rfl rfl rfl rfl) rfl rfl rfl (fun h6_1 => ?_) (fun h6_1 => ?_)
      · have k6_1 := of_decide_eq_true h6_1
        refine zz ?_;(iterate 6 refine zq ?_);(iterate 2 refine zz ?_);(iterate 3 refine zq ?_);(iterate 2 refine zz ?_);(iterate 2 refine zq ?_);refine zz ?_;refine zzn ?_
        exact ⟨true, ⟨fun _ => .inl (by omega), fun _ => rfl⟩, ent_g zk⟩
      · have k6_1 := of_decide_eq_false h6_1
        iterate 2 refine zz ?_
        refine Run.oneB (ok_cmp rfl rfl rfl rfl) (gB rfl rfl rfl rfl) rfl rfl (fun h6_4 => ?_) (fun h6_4 => ?_)
        · have k6_4 := beq_iff_eq.1 h6_4
          iterate 4 refine zz ?_
          refine Run.oneB (ok_pick rfl rfl rfl) rfl rfl rfl (fun h6_9 => ?_) (fun h6_9 => ?_)
          · have k6_9 := bne_iff_ne.1 h6_9
            refine zz ?_;(iterate 3 refine zq ?_);(iterate 2 refine zz ?_);(iterate 2 refine zq ?_);refine zz ?_;refine zzn ?_
            exact ⟨true, ⟨fun _ => .inr (.inl (by omega)), fun _ => rfl⟩, ent_g zk⟩
          · have k6_9 := bne_eq_false_iff_eq.1 h6_9
            (iterate 2 refine zz ?_);refine zo ((ok_rem rfl rfl rfl (by omega) (by omega)).sub (int_eq (n := ((r.length % 2 : Nat) : Int)) (by omega))) ?_;refine zz ?_
            refine Run.oneB (ok_pick rfl rfl rfl) rfl rfl rfl (fun h6_14 => ?_) (fun h6_14 => ?_)
            · have k6_14 := bne_iff_ne.1 h6_14
              refine zz ?_;(iterate 2 refine zq ?_);refine zz ?_;refine zzn ?_
              exact ⟨true, ⟨fun _ => .inr (.inr (.inl (by omega))), fun _ => rfl⟩, ent_g zk⟩
            · have k6_14 := bne_eq_false_iff_eq.1 h6_14
              (iterate 4 refine zz ?_);refine zzn ?_
              exact ⟨_, (by rw [beq_iff_eq]; constructor; intro h; exact .inr (.inr (.inr (by omega))); rintro (h | h | h | h) <;> omega), ent_g (subG_cons rfl (subG_cons rfl (subG_cons rfl (subG_cons rfl (trivial)))))⟩
        · have k6_4 := beq_eq_false_iff_ne.1 h6_4
          refine zz ?_;(iterate 2 refine zq ?_);(iterate 4 refine zz ?_);refine zo ((ok_rem rfl rfl rfl (by omega) (by omega)).sub (int_eq (n := ((r.length % 2 : Nat) : Int)) (by omega))) ?_;refine zz ?_
          refine Run.oneB (ok_pick rfl rfl rfl) rfl rfl rfl (fun h6_14 => ?_) (fun h6_14 => ?_)
          · have k6_14 := bne_iff_ne.1 h6_14
            refine zz ?_;(iterate 2 refine zq ?_);refine zz ?_;refine zzn ?_
            exact ⟨true, ⟨fun _ => .inr (.inr (.inl (by omega))), fun _ => rfl⟩, ent_g zk⟩
          · have k6_14 := bne_eq_false_iff_eq.1 h6_14
            (iterate 4 refine zz ?_);refine zzn ?_
            exact ⟨_, (by rw [beq_iff_eq]; constructor; intro h; exact .inr (.inr (.inr (by omega))); rintro (h | h | h | h) <;> omega), ent_g (subG_cons rfl (subG_cons rfl (subG_cons rfl (subG_cons rfl (trivial)))))⟩
    · rintro S1 ⟨b, hb, hS1⟩
      refine T_pre hS1 ?_;refine zzc (fun h47 => ?_) fun h47 => ?_
      · have hrm : rowM w r = (K, [], 1) := by unfold rowM; rw [← hK, if_pos (hb.1 h47)]
        refine zr ?_;(iterate 2 refine zz ?_);refine zo ((ok_assign rfl rfl).sub (nil_q3 (l := (rowM w r).2.1) (by rw [hrm]))) ?_;refine zz ?_;refine zzn ?_;refine T_ret ?_
        exact ⟨_, [], .many (.cons (.tmp rfl) (.cons (.tmp rfl) (.cons (.tmp rfl) (.nil)))), List.nil_sublist _, by rw [hrm], rfl⟩
      · have hnb := fun h => Bool.false_ne_true (h47.symm.trans (hb.2 h))
        have hrm2 : rowM w r = if r.all gdW then (K, r.map fun x => (num3 x).1, cdF 0 r) else (K, [], 1) := by unfold rowM; rw [← hK, if_neg hnb]
        refine T_skip ?_;refine zr ?_;refine zz ?_;refine zx ?_;refine zz ?_;refine zzn ?_;refine T_seq ?_;refine zr ?_;refine zz ?_;refine zzn ?_;refine T_block ?_;refine T_ghost (ghost_row 28 3) ?_;refine T_loop2 (fun (g : Nat) (q : Option (Nat × Nat)) => ⟨85, [(10, intS .i64 (cdF 0 (r.take g))), (11, intS .i64 ((g + 1 : Nat) : Int)), (9, eqS (rowV q g)), (7, intS .i64 K), (5, slS 1 tC (w :: r))], [rowE q 28 3 g (((r.take g).map (fun x : List UInt8 => (num3 x).1)).flatMap q3)], [], (0, false)⟩) (fun g q => g ≤ r.length ∧ rowOk q g ∧ (r.take g).all gdW = true) (fun g _ => r.length - g) 0 none ⟨Nat.zero_le _, rfl, rfl⟩ (ent_h zk rfl) ?_
        rintro g q ⟨hg, hq, hn⟩
        refine T_seq ?_;refine zr ?_;(iterate 2 refine zz ?_);refine zo ((ok_len rfl rfl).sub (int_eq (n := ((r.length + 1 : Nat) : Int)) (by simp))) ?_;refine zz ?_;refine zzn ?_;refine zzc (fun h52 => ?_) fun h52 => ?_
        · have k52 := of_decide_eq_true h52
          obtain ⟨x, hx⟩ : ∃ x, r[g]? = some x := ⟨_, List.getElem?_eq_getElem (by omega)⟩
          have hxm := List.mem_of_getElem? hx
          have hxl := hsl x (List.mem_cons_of_mem _ hxm)
          have hcs : cdF 0 (r.take (g + 1)) = rdW (cdF 0 (r.take g)) x := by unfold cdF; rw [take_snoc hx, List.foldl_append]; rfl
          obtain ⟨C0, hC0⟩ : ∃ C0, C0 = cdF 0 (r.take g) := ⟨_, rfl⟩
          rw [← hC0] at hcs ⊢
          have hne := num3_err x
          have hms : (r.take (g + 1)).map (fun x => (num3 x).1) = (r.take g).map (fun x => (num3 x).1) ++ [(num3 x).1] := by rw [take_snoc hx, List.map_append]; rfl
          have hgl : ((r.take g).map fun x => (num3 x).1).length = g := by rw [List.length_map, List.length_take]; omega
          refine T_skip ?_;refine T_seq ?_;refine T_block ?_;refine zr ?_;(iterate 2 refine zz ?_);refine zo (ok_indexAddr rfl rfl rfl (by omega) (y := x) ((by simpa using hx))) ?_;refine zz ?_;refine zo (ok_call rfl rfl (rnumber_spec (by omega))) ?_;(iterate 4 refine zz ?_);refine zzv fun b12 => ?_;refine zw ?_;(iterate 2 refine zz ?_);refine zzn ?_;refine T_seqQ (K := fun S1 => gdW x = true ∧ Ent S1 ⟨85, [(10, intS .i64 (cdF 0 (r.take (g + 1)))), (12, eqS (.pointer (some ⟨b12, 0, none⟩))), (11, intS .i64 ((g + 1 : Nat) : Int)), (9, eqS (rowV q g)), (7, intS .i64 K), (5, slS 1 tC (w :: r))], [⟨some b12, 28, canQ (num3 x).1, 0⟩, rowE q 28 3 g (((r.take g).map (fun x : List UInt8 => (num3 x).1)).flatMap q3)], [], (0, false)⟩) ?_ ?_
          · refine T_block ?_;refine zr ?_;(iterate 3 refine zz ?_);refine zzn ?_;refine zzc (fun h64 => ?_) fun h64 => ?_
            · have k64 := beq_iff_eq.1 h64
              have hgd : gdW x = true := by unfold gdW; rw [k64]; rfl
              have hrd : rdW C0 x = worR C0 2 := by unfold rdW; rw [if_pos k64, worR_eq (by decide)]
              refine T_region ?_;refine zz ?_;refine zf rworse_spec ?_;refine zz ?_;refine zzn ?_
              exact ⟨hgd, (by rw [hcs, hrd]; exact ent_h (subG_cons rfl (subG_cons rfl (subG_cons rfl (subG_cons rfl (subG_cons rfl (subG_cons rfl (trivial))))))) rfl)⟩
            · have k64 := beq_eq_false_iff_ne.1 h64
              refine zr ?_;(iterate 3 refine zz ?_);refine zzn ?_;refine zzc (fun h69 => ?_) fun h69 => ?_
              · have k69 := bne_iff_ne.1 h69
                have hbad : r.all gdW = false := by
                  cases h : r.all gdW with
                  | false => rfl
                  | true =>
                    have := List.all_eq_true.1 h x hxm
                    unfold gdW at this
                    rw [bne_iff_ne] at this
                    omega
                rw [if_neg (by rw [hbad]; decide)] at hrm2
                refine zr ?_;(iterate 2 refine zz ?_);refine zo ((ok_assign rfl rfl).sub (nil_q3 (l := (rowM w r).2.1) (by rw [hrm2]))) ?_;refine zz ?_;refine zzn ?_;refine T_ret ?_
                exact ⟨_, [], .many (.cons (.tmp rfl) (.cons (.tmp rfl) (.cons (.tmp rfl) (.nil)))), List.nil_sublist _, by rw [hrm2], rfl⟩
              · have k69 := bne_eq_false_iff_eq.1 h69
                have hgd : gdW x = true := by unfold gdW; rw [k69]; rfl
                refine zr ?_;(iterate 3 refine zz ?_);refine zzn ?_;refine zzc (fun h73 => ?_) fun h73 => ?_
                · have k73 := of_decide_eq_true h73
                  have hrd : rdW C0 x = worR C0 3 := by unfold rdW; rw [if_neg k64, if_pos k73, worR_eq (by decide)]
                  refine T_region ?_;refine zz ?_;refine zf rworse_spec ?_;refine zz ?_;refine zzn ?_
                  exact ⟨hgd, (by rw [hcs, hrd]; exact ent_h (subG_cons rfl (subG_cons rfl (subG_cons rfl (subG_cons rfl (subG_cons rfl (subG_cons rfl (trivial))))))) rfl)⟩
                · have k73 := of_decide_eq_false h73
                  have hrd : rdW C0 x = C0 := by unfold rdW; rw [if_neg k64, if_neg k73]
                  refine T_skip ?_
                  exact ⟨hgd, (by rw [hcs, hrd]; exact ent_h (subG_cons rfl (subG_cons rfl (subG_cons rfl (subG_cons rfl (subG_cons rfl (subG_cons rfl (trivial))))))) rfl)⟩
          · rintro S1 ⟨hgd, hS1⟩
            refine T_pre hS1 ?_;refine T_region ?_;refine zz ?_;refine zo ((show OpOK _ _ _ _ _ (aggS (canQ (num3 x).1)) from ok_load_own_agg 0 rfl rfl rfl (by kernel_rfl) rfl)) ?_;refine zo (ok_buildSlice rfl rfl (by decide) rfl (by simp) (by kernel_rfl) (by kernel_rfl)) ?_;refine Run.append 1 rfl rfl rfl rfl rfl rfl rfl rfl hq (by rw [flatQ3, hgl]) (fun z hz => by rw [List.mem_singleton.1 hz]; rfl) (by unfold big; simp; omega) (by unfold big; simp; omega) fun q81 hq81 => ?_;refine zz ?_;refine Run.ghost _ rfl (ghost_drop (List.sublist_cons_self _ _)) ?_;refine zzn ?_;refine T_region ?_;refine zz ?_;refine za ((g + 1 + 1 : Nat) : Int) ?_;refine zz ?_;refine zzn ?_
            exact ⟨g + 1, q81, ⟨by omega, hq81, gdW_take hx hgd hn⟩, by omega, ent_h (subG_cons rfl (subG_cons rfl (subG_cons rfl (subG_cons rfl (subG_cons rfl (trivial)))))) (by rw [hms, List.flatMap_append]; rfl)⟩
        · have k52 := of_decide_eq_false h52
          obtain rfl : g = r.length := by omega
          rw [List.take_length] at hn ⊢
          rw [if_pos hn] at hrm2
          refine T_exit ?_;refine T_ghost (ghost_sl 0 9 rfl rfl hq (l := r.map fun x => (num3 x).1) (f := q3) (by rw [List.length_map]) rfl (fun _ _ => rfl) (by unfold big; omega)) ?_;refine zr ?_;(iterate 6 refine zz ?_);refine zzn ?_;refine T_ret ?_
          exact ⟨_, [], .many (.cons (.tmp rfl) (.cons (.tmp rfl) (.cons (.tmp rfl) (.nil)))), List.nil_sublist _, by rw [hrm2], rfl⟩
end Go.Proofs
