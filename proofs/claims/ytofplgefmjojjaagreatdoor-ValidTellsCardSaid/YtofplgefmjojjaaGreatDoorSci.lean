/- straitref12: what is too great; what the document says of four texts. -/
import Derived.Test.YtofplgefmjojjaaGreatDoorSce
namespace Go.Proofs
open Go Go.Sv Num
variable {G : Imm}
def bigR (l : List RP) : Prop := 20 < l.length ∨ ∃ p ∈ l, 6 < psz p
def bigQ (q : RP × RP) : Prop := 6 < psz q.1 ∨ 6 < psz q.2
def Gr12 (s : Sc) : Prop := bigR s.1 ∨ 20 < s.2.1.length ∨ (∃ l ∈ s.2.1, bigR l) ∨ 20 < s.2.2.length ∨ ∃ q ∈ s.2.2, bigQ q
noncomputable instance gr12_dec {s : Sc} : Decidable (Gr12 s) := Classical.propDecidable _
theorem queG {p q : RP} : (60 < [p, q].length ∨ ∃ x ∈ [p, q], 6 < psz x) ↔ bigQ (p, q) := by
 unfold bigQ
 constructor
 ·rintro (h | ⟨x, hx, h⟩)
  ·simp at h
  ·rcases List.mem_cons.1 hx with rfl | hx
   ·exact .inl h
   ·rw [List.mem_singleton.1 hx] at h; exact .inr h
 ·rintro (h | h)
  ·exact .inr ⟨p, by simp, h⟩
  ·exact .inr ⟨q, by simp, h⟩
theorem rowG {l : List RP} (h : ¬ 20 < l.length) : (60 < l.length ∨ ∃ x ∈ l, 6 < psz x) ↔ bigR l := by
 unfold bigR
 exact ⟨fun hx => hx.elim (fun h => by omega) .inr, fun hx => hx.elim (fun h' => absurd h' h) .inr⟩
theorem great12_spec {s : Sc} : PSpec Tryz.prog G 70 [aggS (scC s)] (boolS (decide (Gr12 s))) := by
 refine zs Tryz.func70 ?_;refine zr ?_;(iterate 2 refine zz ?_);refine zzn ?_;refine T_seqQ (K := fun S1 => (20 < s.2.1.length ∨ ∀ l ∈ s.2.1, ¬ bigR l) ∧ Ent S1 ⟨77, [(1, ptrS (scC s))], [], [], (0, false)⟩) ?_ ?_
 ·refine zr ?_;refine zz ?_;refine zzn ?_;refine T_block ?_
  refine T_loop (γ := Nat) (fun g => ⟨_, [(3, intS .i64 (g : Nat)), (1, ptrS (scC s))], [], [], (0, false)⟩) (fun g => g ≤ s.2.1.length ∧ g ≤ 21 ∧ ∀ j l, j < g → s.2.1[j]? = some l → ¬ bigR l) (fun g => s.2.1.length - g) 0 ⟨Nat.zero_le _, Nat.zero_le _, fun j l h => by omega⟩ (ent_g zk) ?_
  rintro g ⟨hg, hg2, hz⟩
  refine T_seq ?_;refine zr ?_;(iterate 4 refine zz ?_)
  refine Run.oneB (ok_cmp rfl rfl rfl rfl) rfl rfl rfl (fun h2_4 => ?_) (fun h2_4 => ?_)
  ·have k2_4 := of_decide_eq_true h2_4
   (iterate 4 refine zz ?_);refine zzn ?_;refine zzc (fun h13 => ?_) fun h13 => ?_
   ·have k13 := of_decide_eq_true h13
    obtain ⟨l, hl⟩ : ∃ l, s.2.1[g]? = some l := ⟨_, List.getElem?_eq_getElem (by omega)⟩
    have hlm := List.mem_of_getElem? hl
    refine T_skip ?_;refine T_seq ?_;refine T_block ?_;refine zr ?_;(iterate 3 refine zz ?_);refine zo (ok_indexAddr rfl rfl rfl (by omega) (y := l) (hl)) ?_;(iterate 2 refine zz ?_)
    refine Run.oneB (ok_cmp rfl rfl rfl rfl) rfl rfl rfl (fun h4_6 => ?_) (fun h4_6 => ?_)
    ·have k4_6 := of_decide_eq_true h4_6
     refine zz ?_;(iterate 6 refine zq ?_);refine zz ?_;refine zzn ?_;refine T_condT rfl rfl ?_;refine zr ?_;refine zz ?_;refine zzn ?_;refine T_ret ?_
     exact ⟨_, [], .one (.tmp rfl), List.nil_sublist _, congrArg boolS (decide_eq_true (.inr (.inr (.inl ⟨l, hlm, .inl (by omega)⟩)))).symm, rfl⟩
    ·have k4_6 := of_decide_eq_false h4_6
     (iterate 4 refine zz ?_);refine zo (ok_indexAddr rfl rfl rfl (by omega) (y := l) (hl)) ?_;refine zz ?_;refine zf rpGreat_spec ?_;refine zz ?_;refine zzn ?_;refine zzc (fun h30 => ?_) fun h30 => ?_
     ·refine zr ?_;refine zz ?_;refine zzn ?_;refine T_ret ?_
      exact ⟨_, [], .one (.tmp rfl), List.nil_sublist _, congrArg boolS (decide_eq_true (.inr (.inr (.inl ⟨l, hlm, (rowG (by omega)).1 (of_decide_eq_true h30)⟩)))).symm, rfl⟩
     ·refine T_skip ?_;refine T_region ?_;refine zz ?_;refine za ((g + 1 : Nat) : Int) ?_;refine zz ?_;refine zzn ?_
      exact ⟨g + 1, ⟨by omega, by omega, fun j l2 hj hl2 => by rcases Nat.lt_or_ge j g with h | h; exact hz j l2 h hl2; rw [show j = g by omega, hl] at hl2; cases hl2; exact fun hb => of_decide_eq_false h30 ((rowG (by omega)).2 hb)⟩, by omega, ent_g (subG_cons rfl (subG_cons rfl (trivial)))⟩
   ·have k13 := of_decide_eq_false h13
    refine T_exit ?_
    exact ⟨.inl (by omega), ent_g (subG_cons rfl trivial)⟩
  ·have k2_4 := of_decide_eq_false h2_4
   refine zz ?_;(iterate 2 refine zq ?_);refine zz ?_;refine zzn ?_;refine T_condF rfl rfl ?_;refine T_exit ?_
   exact ⟨.inr fun l hl => by obtain ⟨j, hj⟩ := List.getElem?_of_mem hl; exact hz j l (by have := lt_of_get hj; omega) hj, ent_g (subG_cons rfl trivial)⟩
 ·rintro S1 ⟨hA, hS1⟩
  refine T_pre hS1 ?_;refine T_seqQ (K := fun S1 => (20 < s.2.2.length ∨ ∀ q ∈ s.2.2, ¬ bigQ q) ∧ Ent S1 ⟨77, [(1, ptrS (scC s))], [], [], (0, false)⟩) ?_ ?_
  ·refine zr ?_;refine zz ?_;refine zzn ?_;refine T_block ?_
   refine T_loop (γ := Nat) (fun g => ⟨_, [(4, intS .i64 (g : Nat)), (1, ptrS (scC s))], [], [], (0, false)⟩) (fun g => g ≤ s.2.2.length ∧ g ≤ 21 ∧ ∀ j q, j < g → s.2.2[j]? = some q → ¬ bigQ q) (fun g => s.2.2.length - g) 0 ⟨Nat.zero_le _, Nat.zero_le _, fun j l h => by omega⟩ (ent_g zk) ?_
   rintro g ⟨hg, hg2, hz⟩
   refine T_seq ?_;refine zr ?_;(iterate 4 refine zz ?_)
   refine Run.oneB (ok_cmp rfl rfl rfl rfl) rfl rfl rfl (fun h7_4 => ?_) (fun h7_4 => ?_)
   ·have k7_4 := of_decide_eq_true h7_4
    (iterate 4 refine zz ?_);refine zzn ?_;refine zzc (fun h39 => ?_) fun h39 => ?_
    ·have k39 := of_decide_eq_true h39
     obtain ⟨⟨⟨⟨b1, l1, d1⟩, ⟨c1, m1, e1⟩⟩, ⟨⟨b2, l2, d2⟩, ⟨c2, m2, e2⟩⟩⟩, hq⟩ : ∃ q, s.2.2[g]? = some q := ⟨_, List.getElem?_eq_getElem (by omega)⟩
     have hqm := List.mem_of_getElem? hq
     refine T_skip ?_;refine T_seq ?_;refine T_block ?_;refine T_drawS 14 (by kernel_rfl) ?_;(iterate 3 refine zz ?_);refine zo (ok_indexAddr rfl rfl rfl (by omega) (y := (((b1, l1, d1), (c1, m1, e1)), ((b2, l2, d2), (c2, m2, e2)))) (hq)) ?_;refine zz ?_;refine zo ((show OpOK _ _ _ _ _ (aggS (pc ((b1, l1, d1), (c1, m1, e1)))) from ok_load_agg rfl rfl rfl rfl)) ?_;(iterate 3 refine zz ?_);refine zo (ok_indexAddr rfl rfl rfl (by omega) (y := (((b1, l1, d1), (c1, m1, e1)), ((b2, l2, d2), (c2, m2, e2)))) (hq)) ?_;refine zz ?_;refine zo ((show OpOK _ _ _ _ _ (aggS (pc ((b2, l2, d2), (c2, m2, e2)))) from ok_load_agg rfl rfl rfl rfl)) ?_;refine zo (ok_buildSlice rfl rfl (by decide) rfl (by simp) rfl rfl) ?_;refine zo (ok_call rfl rfl ((rpGreat_spec (xs := [((b1, l1, d1), (c1, m1, e1)), ((b2, l2, d2), (c2, m2, e2))])).args ⟨fun I v h => sl_map (f := pc) (l := [((b1, l1, d1), (c1, m1, e1)), ((b2, l2, d2), (c2, m2, e2))]) h, trivial⟩)) ?_;(iterate 2 refine zzn ?_);refine zzc (fun h55 => ?_) fun h55 => ?_
     ·refine zr ?_;refine zz ?_;refine zzn ?_;refine T_ret ?_
      exact ⟨_, [], .one (.tmp rfl), List.nil_sublist _, congrArg boolS (decide_eq_true (.inr (.inr (.inr (.inr ⟨_, hqm, queG.1 (of_decide_eq_true h55)⟩))))).symm, rfl⟩
     ·refine T_skip ?_;refine T_region ?_;refine zz ?_;refine za ((g + 1 : Nat) : Int) ?_;refine zz ?_;refine zzn ?_
      exact ⟨g + 1, ⟨by omega, by omega, fun j q2 hj hq2 => by rcases Nat.lt_or_ge j g with h | h; exact hz j q2 h hq2; rw [show j = g by omega, hq] at hq2; cases hq2; exact fun hb => of_decide_eq_false h55 (queG.2 hb)⟩, by omega, ent_g (subG_cons rfl (subG_cons rfl (trivial)))⟩
    ·have k39 := of_decide_eq_false h39
     refine T_exit ?_
     exact ⟨.inl (by omega), ent_g (subG_cons rfl trivial)⟩
   ·have k7_4 := of_decide_eq_false h7_4
    refine zz ?_;(iterate 2 refine zq ?_);refine zz ?_;refine zzn ?_;refine T_condF rfl rfl ?_;refine T_exit ?_
    exact ⟨.inr fun l hl => by obtain ⟨j, hj⟩ := List.getElem?_of_mem hl; exact hz j l (by have := lt_of_get hj; omega) hj, ent_g (subG_cons rfl trivial)⟩
  ·rintro S1 ⟨hB, hS1⟩
   refine T_pre hS1 ?_;refine zr ?_;(iterate 3 refine zz ?_)
   refine Run.oneB (ok_cmp rfl rfl rfl rfl) rfl rfl rfl (fun h11_3 => ?_) (fun h11_3 => ?_)
   ·have k11_3 := of_decide_eq_true h11_3
    refine zz ?_;(iterate 3 refine zq ?_);(iterate 2 refine zz ?_);(iterate 4 refine zq ?_);(iterate 2 refine zz ?_);(iterate 4 refine zq ?_);(iterate 2 refine zz ?_);refine zzn ?_;refine T_ret ?_
    exact ⟨_, [], .one (.tmp rfl), List.nil_sublist _, congrArg boolS (decide_eq_true (.inl (.inl (by omega)))).symm, rfl⟩
   ·have k11_3 := of_decide_eq_false h11_3
    (iterate 3 refine zz ?_);refine zf rpGreat_spec ?_
    refine Run.oneB (ok_pick rfl rfl rfl) rfl rfl rfl (fun h11_8 => ?_) (fun h11_8 => ?_)
    ·refine zz ?_;(iterate 4 refine zq ?_);(iterate 2 refine zz ?_);(iterate 4 refine zq ?_);(iterate 2 refine zz ?_);refine zzn ?_;refine T_ret ?_
     exact ⟨_, [], .one (.tmp rfl), List.nil_sublist _, congrArg boolS (decide_eq_true (.inl ((rowG (by omega)).1 (of_decide_eq_true h11_8)))).symm, rfl⟩
    ·refine zz ?_;(iterate 4 refine zz ?_)
     refine Run.oneB (ok_pick rfl rfl rfl) rfl rfl rfl (fun h11_14 => ?_) (fun h11_14 => ?_)
     ·have k11_14 := of_decide_eq_true h11_14
      refine zz ?_;(iterate 4 refine zq ?_);(iterate 2 refine zz ?_);refine zzn ?_;refine T_ret ?_
      exact ⟨_, [], .one (.tmp rfl), List.nil_sublist _, congrArg boolS (decide_eq_true (.inr (.inl (by omega)))).symm, rfl⟩
     ·have k11_14 := of_decide_eq_false h11_14
      (iterate 7 refine zz ?_);refine zzn ?_;refine T_ret ?_
      exact ⟨_, [], .one (.tmp rfl), List.nil_sublist _, congrArg boolS (decide_eq_decide.2 ⟨fun h => .inr (.inr (.inr (.inl (by omega)))), fun h => by
       rcases h with h | h | ⟨l, hl, h⟩ | h | ⟨q, hq, h⟩
       ·exact absurd ((rowG (by omega)).2 h) (of_decide_eq_false h11_8)
       ·omega
       ·exact absurd h ((hA.resolve_left (by omega)) l hl)
       ·omega
       ·rcases hB with hB | hB
        ·omega
        ·exact absurd h (hB q hq)⟩), rfl⟩
end Go.Proofs
/- straitlaw12: what the document says of four texts. -/
namespace Go.Proofs
open Go Go.Sv Num
variable {G : Imm}
def rawR (l : List QP) : List RP := l.map rawP
def raw2 (q : QP × QP) : RP × RP := (rawP q.1, rawP q.2)
def rawS (s : QS) : Sc := (rawR s.1, s.2.1.map rawR, s.2.2.map raw2)
theorem map_id_of {α : Type} {f : α → α} (h : ∀ x, f x = x) (l : List α) : l.map f = l := (List.map_congr_left fun x _ => h x).trans (List.map_id _)
theorem nrm_raw (s : QS) : nrm (rawS s) = s := by
 unfold nrm rawS
 refine Prod.ext (map_raw _) (Prod.ext ?_ ?_)
 ·show (s.2.1.map rawR).map pvs = s.2.1
  rw [List.map_map]; exact map_id_of (fun l => map_raw l) _
 ·show (s.2.2.map raw2).map pv2 = s.2.2
  rw [List.map_map]; exact map_id_of (fun q => by show (pv (rawP q.1), pv (rawP q.2)) = q; rw [rawP_pv, rawP_pv]) _
theorem qs_sc {s : QS} (I : Imm) (v : Value) (h : (aggS (qsC s)).den I v) : (aggS (scC (rawS s))).den I v := by
 obtain ⟨xs, hv, hd, h1⟩ := h
 obtain ⟨x, y, z, rfl, hx, hy, hz⟩ := dens_three hd
 refine ⟨_, hv, dens_cons (sl_same rawP (fun _ => rfl) hx) (dens_cons (sl_conv rawR (fun l _ i r hr => ?_) hy) (dens_cons (sl_same raw2 (fun _ => rfl) hz) dens_nil)), h1⟩
 cases i with
 | zero => cases hr; exact ⟨_, rfl, fun v h => sl_same rawP (fun _ => rfl) h⟩
 | succ i => cases hr
def qsPts (s : QS) : List QP := s.1 ++ (s.2.1.flatten ++ s.2.2.flatMap fun q => [q.1, q.2])
theorem scPts_eq (s : Sc) : scPts s = s.1 ++ (s.2.1.flatten ++ s.2.2.flatMap fun q => [q.1, q.2]) := by
 unfold scPts scL
 rw [List.flatMap_cons, List.flatMap_append, List.flatMap_map, List.flatMap_map]
 show s.1 ++ (s.2.1.flatMap id ++ _) = _
 rw [List.flatMap_id]
theorem raw_flat (l : List (List QP)) : (l.map rawR).flatten = rawR l.flatten := by
 induction l with
 | nil => rfl
 | cons x l ih => rw [List.map_cons, List.flatten_cons, ih, List.flatten_cons]; unfold rawR; rw [List.map_append]
theorem raw_flat2 (l : List (QP × QP)) : ((l.map raw2).flatMap fun q => [q.1, q.2]) = rawR (l.flatMap fun q => [q.1, q.2]) := by
 induction l with
 | nil => rfl
 | cons x l ih => rw [List.map_cons, List.flatMap_cons, ih, List.flatMap_cons]; unfold rawR; rw [List.map_append]; rfl
theorem scPts_raw (s : QS) : scPts (rawS s) = rawR (qsPts s) := by
 rw [scPts_eq]
 unfold rawS qsPts
 rw [raw_flat, raw_flat2]; unfold rawR; rw [List.map_append, List.map_append]
theorem raw_scok {s : QS} {k n : Nat} (hk : 0 < k) (hp : ∀ p ∈ qsPts s, Bq p.1 k ∧ Bq p.2 k) (hl : (qsPts s).length ≤ n) (hr : s.2.1.length + s.2.2.length + 1 ≤ n) : ScOk (rawS s) k n := by
 refine ⟨hk, fun x hx p hpx => ?_, by rw [scPts_raw]; unfold rawR; rwa [List.length_map], by rw [scL_len]; unfold rawS; simpa using hr⟩
 have : p ∈ scPts (rawS s) := List.mem_flatMap.2 ⟨x, hx, hpx⟩
 rw [scPts_raw] at this
 obtain ⟨q, hq, rfl⟩ := List.mem_map.1 this
 exact raw_ok (hp q hq)
instance dqs : DecidableEq (List (Rat × Rat) × List (List (Rat × Rat)) × List ((Rat × Rat) × (Rat × Rat))) := instDecidableEqProd
abbrev S0 : QS := ([(0, 0), (1, 0), (0, 1)], [], [])
end Go.Proofs
/- The law SceneParts, on the facts. -/
namespace Go.Proofs
open Go Go.Sv Num
variable {G : Imm}
abbrev LimP (p : RP) : Prop := (Lim p.1.2.1 ∧ Lim p.1.2.2) ∧ Lim p.2.2.1 ∧ Lim p.2.2.2
structure ScLim (s : Sc) : Prop where
 rob : ∀ p ∈ s.1, LimP p
 obs : ∀ l ∈ s.2.1, ∀ p ∈ l, LimP p
 que : ∀ q ∈ s.2.2, LimP q.1 ∧ LimP q.2
theorem ptOk_of {p : RP} (h : LimP p) (hs : ¬ 6 < psz p) : PtOk 6 p := by
 unfold psz at hs
 exact ⟨⟨h.1.1, h.1.2, by omega, by omega⟩, h.2.1, h.2.2, by omega, by omega⟩
theorem sum_le (l : List (List RP)) (h : ∀ x ∈ l, x.length ≤ 20) : l.flatten.length ≤ 20 * l.length := by
  induction l with
  | nil => simp
  | cons x l ih =>
    have h1 := h x (by simp)
    have h2 := ih fun y hy => h y (by simp [hy])
    rw [List.flatten_cons, List.length_append, List.length_cons]; omega
theorem que_len (l : List (RP × RP)) : (l.flatMap fun q => [q.1, q.2]).length = 2 * l.length := by
 induction l with
 | nil => rfl
 | cons x l ih => rw [List.flatMap_cons, List.length_append, ih, List.length_cons]; simp; omega
theorem gr_ok {s : Sc} (hl : ScLim s) (h : ¬ Gr12 s) : ScOk s 6 500 := by
 have h1 : ¬ bigR s.1 := fun e => h (.inl e)
 have h2 : ¬ 20 < s.2.1.length := fun e => h (.inr (.inl e))
 have h3 : ∀ l ∈ s.2.1, ¬ bigR l := fun l hl e => h (.inr (.inr (.inl ⟨l, hl, e⟩)))
 have h4 : ¬ 20 < s.2.2.length := fun e => h (.inr (.inr (.inr (.inl e))))
 have h5 : ∀ q ∈ s.2.2, ¬ bigQ q := fun q hq e => h (.inr (.inr (.inr (.inr ⟨q, hq, e⟩))))
 have len : (scPts s).length ≤ 500 := by
  rw [scPts_eq, List.length_append, List.length_append, que_len]
  have := sum_le s.2.1 fun x hx => Nat.le_of_not_lt fun e => h3 x hx (.inl e)
  have h1' : ¬ 20 < s.1.length := fun e => h1 (.inl e)
  omega
 refine ⟨by decide, fun x hx p hp => ?_, len, by rw [scL_len]; omega⟩
 unfold scL at hx
 rcases List.mem_cons.1 hx with rfl | hx
 ·exact ptOk_of (hl.rob p hp) fun e => h1 (.inr ⟨p, hp, e⟩)
 ·rcases List.mem_append.1 hx with hx | hx
  ·obtain ⟨l, hlm, rfl⟩ := List.mem_map.1 hx
   exact ptOk_of (hl.obs l hlm p hp) fun e => h3 l hlm (.inr ⟨p, hp, e⟩)
  ·obtain ⟨q, hqm, rfl⟩ := List.mem_map.1 hx
   rcases List.mem_cons.1 hp with rfl | hp
   ·exact ptOk_of (hl.que q hqm).1 fun e => h5 q hqm (.inl e)
   ·rw [List.mem_singleton.1 hp]; exact ptOk_of (hl.que q hqm).2 fun e => h5 q hqm (.inr e)
theorem nil_sl0 {α : Type} {st : Nat} {f : α → List SV} {I : Imm} {v : Value} (h : (eqS (.slice none 0 0)).den I v) : (slS st f []).den I v := by
 rw [show v = .slice none 0 0 from h]; exact ⟨none, 0, rfl, Nat.le_refl _, Nat.zero_le _, .inl rfl⟩
theorem sc_rob {l : List RP} (I : Imm) (v : Value) (h : (aggS [slS 6 pc l, eqS (.slice none 0 0), eqS (.slice none 0 0)]).den I v) : (aggS (scC (l, [], []))).den I v := by
 obtain ⟨xs, hv, hd, h1⟩ := h
 obtain ⟨x, y, z, rfl, hx, hy, hz⟩ := dens_three hd
 exact ⟨_, hv, dens_cons hx (dens_cons (nil_sl0 hy) (dens_cons (nil_sl0 hz) dens_nil)), h1⟩
def dgF (n : Nat) (l : List QP) : Nat := l.foldl (fun (n : Nat) (p : Rat × Rat) => max (max n (nD p.1)) (nD p.2)) n
theorem dgF_max (n : Nat) (l : List QP) : dgF n l = max n (dgF 0 l) := by
 unfold dgF
 induction l generalizing n with
 | nil => simp
 | cons p l ih => rw [List.foldl_cons, List.foldl_cons, ih, ih (max (max 0 (nD p.1)) (nD p.2))]; omega
theorem dgF_app (l m : List QP) : dgF 0 (l ++ m) = max (dgF 0 l) (dgF 0 m) := by
 rw [show dgF 0 (l ++ m) = dgF (dgF 0 l) m from List.foldl_append, dgF_max]
end Go.Proofs
