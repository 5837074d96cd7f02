/- Points: straitref08; what the laws ask of sizes. -/
import Derived.Test.YtcdlcfihjfhkgaaGreatDoorSnv
namespace Go.Proofs
open Go Go.Sv Num
variable {G : Imm}
abbrev psz (p : (Bool × List Nat × List Nat) × (Bool × List Nat × List Nat)) : Nat := max (max (max p.1.2.1.length p.1.2.2.length) p.2.2.1.length) p.2.2.2.length
instance bq_two : Bq 2 1 := ⟨by decide, by decide⟩
instance bq_three : Bq 3 1 := ⟨by decide, by decide⟩
instance bq_four : Bq 4 1 := ⟨by decide, by decide⟩
instance bq_seven : Bq 7 1 := ⟨by decide, by decide⟩
theorem rpNorm_spec {xs : List ((Bool × List Nat × List Nat) × (Bool × List Nat × List Nat))} {k : Nat} (hk : 0 < k) (hl : ∀ p ∈ xs, PtOk k p) (hs : 64 * k + 20000 ≤ 65536) (hxl : xs.length ≤ cap) : PSpec Tryz.prog G 43 [slS 6 pc xs] (slS 6 pcan (xs.map pv)) := by
  unfold cap at hxl
  refine fn_spec Tryz.func43 rfl rfl rfl ?_
  refine T_regionS ?_
  refine Run.one (ok_assign rfl rfl) rfl rfl rfl ?_
  refine Run.nil ?_
  refine T_regionS ?_
  refine Run.one (ok_assign rfl rfl) rfl rfl rfl ?_
  refine Run.nil ?_
  refine T_seq ?_
  refine T_regionS ?_
  refine Run.one (ok_assign rfl rfl) rfl rfl rfl ?_
  refine Run.nil ?_
  refine T_block ?_
  refine T_ghost (ghost_row 68 6) ?_
  refine T_loop2 (fun (i : Nat) (q : Option (Nat × Nat)) => ⟨_, [(4, intS .i64 (i : Nat)), (3, eqS (rowV q i)), (0, slS 6 pc xs)], [rowE q 68 6 i (((xs.take i).map pv).flatMap pcan)], [], (0, false)⟩)
      (fun i q => i ≤ xs.length ∧ rowOk q i) (fun i q => xs.length - i)
      0 none ⟨Nat.zero_le _, rfl⟩ (ent_h (subG_cons rfl (subG_cons rfl (subG_cons rfl (trivial)))) rfl) ?_
  rintro i q ⟨hi, hq⟩
  refine T_seq ?_
  refine T_regionS ?_
  iterate 2 refine Run.one (ok_move rfl rfl) rfl rfl rfl ?_
  refine Run.one (ok_len rfl rfl) rfl rfl rfl ?_
  refine Run.one (ok_cmp rfl rfl rfl rfl) rfl rfl rfl ?_
  refine Run.nil ?_
  refine T_cond rfl rfl (fun h8 => ?_) (fun h8 => ?_)
  · have k8 := of_decide_eq_true h8
    obtain ⟨⟨⟨b, l, d⟩, ⟨c, m, e⟩⟩, hp⟩ : ∃ p, xs[i]? = some p := ⟨_, List.getElem?_eq_getElem (by omega)⟩
    have hpm := hl _ (List.mem_of_getElem? hp)
    have i1 : IsQ b l d (qv (b, l, d)) k := isQ_lim hpm.1 hk
    have i2 : IsQ c m e (qv (c, m, e)) k := isQ_lim hpm.2 hk
    have htk : (xs.take (i + 1)).map pv = (xs.take i).map pv ++ [(qv (b, l, d), qv (c, m, e))] := by rw [List.take_add_one, hp]; simp [pv]
    refine T_skip ?_
    refine T_seq ?_
    refine T_block ?_
    refine T_draw 15 (by kernel_rfl) ?_
    iterate 3 refine Run.one (ok_move rfl rfl) rfl rfl rfl ?_
    refine Run.one (ok_indexAddr rfl rfl rfl (by omega) (y := ((b, l, d), (c, m, e))) (hp)) rfl rfl rfl ?_
    refine Run.one (ok_fieldAddr rfl rfl rfl) rfl rfl rfl ?_
    refine Run.one ((show OpOK _ _ _ _ _ (aggS [boolS b, natS l, natS d]) from ok_load_agg rfl rfl rfl rfl)) rfl rfl rfl ?_
    refine Run.one (ok_call rfl rfl (rqNorm_spec hs)) rfl rfl rfl ?_
    iterate 2 refine Run.one (ok_move rfl rfl) rfl rfl rfl ?_
    refine Run.one (ok_indexAddr rfl rfl rfl (by omega) (y := ((b, l, d), (c, m, e))) (hp)) rfl rfl rfl ?_
    refine Run.one (ok_fieldAddr rfl rfl rfl) rfl rfl rfl ?_
    refine Run.one ((show OpOK _ _ _ _ _ (aggS [boolS c, natS m, natS e]) from ok_load_agg rfl rfl rfl rfl)) rfl rfl rfl ?_
    refine Run.one (ok_call rfl rfl (rqNorm_spec hs)) rfl rfl rfl ?_
    refine Run.one (ok_build rfl rfl rfl) rfl rfl rfl ?_
    refine Run.one (ok_buildSlice rfl rfl (by decide) rfl (by simp) rfl rfl) rfl rfl rfl ?_
    refine Run.nil ?_
    refine Run.append 0 rfl rfl rfl rfl rfl rfl rfl rfl hq (by rw [flat_pcan]; simp; omega) (fun z hz => by rw [List.mem_singleton.1 hz]; rfl) (by unfold big; simp; omega) (by unfold big; simp; omega) fun q20 hq20 => ?_
    refine Run.one (ok_assign rfl rfl) rfl rfl rfl ?_
    refine Run.nil ?_
    refine T_region ?_
    refine Run.one (ok_move rfl rfl) rfl rfl rfl ?_
    refine Run.one (ok_ari (z := ((i + 1 : Nat) : Int)) rfl rfl rfl (congrArg some (by omega)) (wrap_i64 (by omega) (by omega))) rfl rfl rfl ?_
    refine Run.one (ok_assign rfl rfl) rfl rfl rfl ?_
    refine Run.nil ?_
    exact ⟨i + 1, q20, ⟨by omega, hq20⟩, by omega, ent_h (subG_cons rfl (subG_cons rfl (subG_cons rfl (trivial)))) (by rw [htk, List.flatMap_append]; rfl)⟩
  · have k8 := of_decide_eq_false h8
    have hie : i = xs.length := by omega
    subst hie
    refine T_exit ?_
    refine T_ghost (ghost_sl 0 3 rfl rfl hq (l := (xs.take xs.length).map pv) (f := pcan) (by simp) rfl (fun _ _ => rfl) (by unfold big; omega)) ?_
    refine T_regionS ?_
    refine Run.one (ok_move rfl rfl) rfl rfl rfl ?_
    refine Run.one (ok_assign rfl rfl) rfl rfl rfl ?_
    refine Run.nil ?_
    refine T_ret ?_
    exact ⟨_, [], .one (.tmp rfl), List.nil_sublist _, by rw [List.take_length], rfl⟩
theorem rpGreat_spec {xs : List ((Bool × List Nat × List Nat) × (Bool × List Nat × List Nat))} : PSpec Tryz.prog G 40 [slS 6 pc xs] (boolS (decide (60 < xs.length ∨ ∃ p ∈ xs, 6 < psz p))) := by
  refine fn_spec Tryz.func40 rfl rfl rfl ?_
  refine T_regionS ?_
  refine Run.one (ok_assign rfl rfl) rfl rfl rfl ?_
  refine Run.nil ?_
  refine T_seq ?_
  refine T_regionS ?_
  refine Run.one (ok_assign rfl rfl) rfl rfl rfl ?_
  refine Run.nil ?_
  refine T_block ?_
  refine T_len 0 rfl fun ha => ?_
  unfold big at ha
  refine T_loop (γ := Nat) (fun i => ⟨_, [(3, intS .i64 (i : Nat)), (0, slS 6 pc xs)], [], [], (0, false)⟩) (fun i => i ≤ xs.length ∧ i ≤ 61 ∧ ∀ j p, j < i → xs[j]? = some p → psz p ≤ 6) (fun i => xs.length - i) 0 ⟨Nat.zero_le _, by decide, fun j p h => by omega⟩ (ent_g (subG_cons rfl (subG_cons rfl (trivial)))) ?_
  rintro i ⟨hi, hi2, hz⟩
  refine T_seq ?_
  refine T_regionS ?_
  iterate 2 refine Run.one (ok_move rfl rfl) rfl rfl rfl ?_
  refine Run.one (ok_len rfl rfl) rfl rfl rfl ?_
  refine Run.oneB (ok_cmp rfl rfl rfl rfl) rfl rfl rfl (fun h2_3 => ?_) (fun h2_3 => ?_)
  · have k2_3 := of_decide_eq_true h2_3
    refine Run.one (ok_move rfl rfl) rfl rfl rfl ?_
    refine Run.one (ok_move rfl rfl) (gB rfl rfl rfl rfl) rfl rfl ?_
    refine Run.one (ok_cmp rfl rfl rfl rfl) (gB rfl rfl rfl rfl) rfl rfl ?_
    refine Run.one (ok_pick rfl rfl rfl) rfl rfl rfl ?_
    refine Run.nil ?_
    refine T_cond rfl rfl (fun h11 => ?_) (fun h11 => ?_)
    · have k11 := of_decide_eq_true h11
      refine T_skip ?_
      refine T_seq ?_
      refine T_block ?_
      refine T_drawS 32 (by kernel_rfl) ?_
      obtain ⟨⟨⟨b, l, d⟩, ⟨c, m, e⟩⟩, hp⟩ : ∃ p, xs[i]? = some p := ⟨_, List.getElem?_eq_getElem (by omega)⟩
      have hpm := List.mem_of_getElem? hp
      obtain ⟨sz, hsz⟩ : ∃ sz, sz = psz ((b, l, d), (c, m, e)) := ⟨_, rfl⟩
      have hsz2 : sz = max (max (max l.length d.length) m.length) e.length := hsz
      iterate 2 refine Run.one (ok_move rfl rfl) rfl rfl rfl ?_
      refine Run.one (ok_indexAddr rfl rfl rfl (by omega) (y := ((b, l, d), (c, m, e))) (hp)) rfl rfl rfl ?_
      iterate 3 refine Run.one (ok_fieldAddr rfl rfl rfl) rfl rfl rfl ?_
      refine Run.one (ok_load rfl rfl) rfl rfl rfl ?_
      refine Run.one (ok_len rfl rfl) rfl rfl rfl ?_
      iterate 2 refine Run.one (ok_move rfl rfl) rfl rfl rfl ?_
      refine Run.one (ok_indexAddr rfl rfl rfl (by omega) (y := ((b, l, d), (c, m, e))) (hp)) rfl rfl rfl ?_
      iterate 2 refine Run.one (ok_fieldAddr rfl rfl rfl) rfl rfl rfl ?_
      refine Run.one (ok_load rfl rfl) rfl rfl rfl ?_
      refine Run.one (ok_len rfl rfl) rfl rfl rfl ?_
      iterate 2 refine Run.one (ok_move rfl rfl) rfl rfl rfl ?_
      refine Run.one (ok_indexAddr rfl rfl rfl (by omega) (y := ((b, l, d), (c, m, e))) (hp)) rfl rfl rfl ?_
      iterate 3 refine Run.one (ok_fieldAddr rfl rfl rfl) rfl rfl rfl ?_
      refine Run.one (ok_load rfl rfl) rfl rfl rfl ?_
      refine Run.one (ok_len rfl rfl) rfl rfl rfl ?_
      iterate 2 refine Run.one (ok_move rfl rfl) rfl rfl rfl ?_
      refine Run.one (ok_indexAddr rfl rfl rfl (by omega) (y := ((b, l, d), (c, m, e))) (hp)) rfl rfl rfl ?_
      iterate 2 refine Run.one (ok_fieldAddr rfl rfl rfl) rfl rfl rfl ?_
      refine Run.one (ok_load rfl rfl) rfl rfl rfl ?_
      refine Run.one (ok_len rfl rfl) rfl rfl rfl ?_
      refine Run.one ((ok_max4 rfl rfl rfl rfl rfl).sub (int_eq (n := ((sz : Nat) : Int)) (by simp only [hsz2]; omega))) rfl rfl rfl ?_
      refine Run.one (ok_cmp rfl rfl rfl rfl) rfl rfl rfl ?_
      iterate 2 refine Run.nil ?_
      refine T_cond rfl rfl (fun h45 => ?_) (fun h45 => ?_)
      · have k45 := of_decide_eq_true h45
        refine T_regionS ?_
        refine Run.one (ok_assign rfl rfl) rfl rfl rfl ?_
        refine Run.nil ?_
        refine T_ret ?_
        exact ⟨_, [], .one (.tmp rfl), List.nil_sublist _, congrArg boolS (decide_eq_true (.inr ⟨_, hpm, by rw [← hsz]; omega⟩)).symm, rfl⟩
      · have k45 := of_decide_eq_false h45
        refine T_skip ?_
        refine T_region ?_
        refine Run.one (ok_move rfl rfl) rfl rfl rfl ?_
        refine Run.one (ok_ari (z := ((i + 1 : Nat) : Int)) rfl rfl rfl (congrArg some (by omega)) (wrap_i64 (by omega) (by omega))) rfl rfl rfl ?_
        refine Run.one (ok_assign rfl rfl) rfl rfl rfl ?_
        refine Run.nil ?_
        refine ⟨i + 1, ⟨by omega, ?_, fun j p hj hpj => ?_⟩, by omega, ent_g (subG_cons rfl (subG_cons rfl (trivial)))⟩
        · omega
        rcases Nat.lt_or_ge j i with h | h
        · exact hz j p h hpj
        · rw [show j = i by omega, hp] at hpj; cases hpj; rw [← hsz]; omega
    · have k11 := of_decide_eq_false h11
      refine T_exit ?_
      refine T_regionS ?_
      refine Run.one (ok_move rfl rfl) rfl rfl rfl ?_
      refine Run.one (ok_len rfl rfl) rfl rfl rfl ?_
      refine Run.one ((ok_cmp rfl rfl rfl rfl).sub (bool_eq (c := decide (60 < xs.length ∨ ∃ p ∈ xs, 6 < psz p)) (decide_eq_decide.2 ⟨fun h => .inl (by omega), fun h => by rcases h with h | h; omega; omega⟩))) rfl rfl rfl ?_
      refine Run.one (ok_assign rfl rfl) rfl rfl rfl ?_
      refine Run.nil ?_
      refine T_ret ?_
      exact ⟨_, [], .one (.tmp rfl), List.nil_sublist _, rfl, rfl⟩
  · have k2_3 := of_decide_eq_false h2_3
    refine Run.one (ok_move rfl rfl) rfl rfl rfl ?_
    iterate 2 refine Run.no (gB rfl rfl rfl rfl) rfl rfl ?_
    refine Run.one (ok_pick rfl rfl rfl) rfl rfl rfl ?_
    refine Run.nil ?_
    refine T_condF rfl rfl ?_
    refine T_exit ?_
    refine T_regionS ?_
    refine Run.one (ok_move rfl rfl) rfl rfl rfl ?_
    refine Run.one (ok_len rfl rfl) rfl rfl rfl ?_
    refine Run.one ((ok_cmp rfl rfl rfl rfl).sub (bool_eq (c := decide (60 < xs.length ∨ ∃ p ∈ xs, 6 < psz p)) (decide_eq_decide.2 ⟨fun h => .inl (by omega), fun h => by rcases h with h | ⟨p, hp, h⟩; omega; obtain ⟨j, hj⟩ := List.getElem?_of_mem hp; have := hz j p (by have := lt_of_get hj; omega) hj; omega⟩))) rfl rfl rfl ?_
    refine Run.one (ok_assign rfl rfl) rfl rfl rfl ?_
    refine Run.nil ?_
    refine T_ret ?_
    exact ⟨_, [], .one (.tmp rfl), List.nil_sublist _, rfl, rfl⟩
end Go.Proofs
