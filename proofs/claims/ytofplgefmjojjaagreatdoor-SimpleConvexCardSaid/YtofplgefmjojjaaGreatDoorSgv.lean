/- straitlaw13: the law SimpleConvex, on the facts. -/
import Derived.Test.YtofplgefmjojjaaGreatDoorSgt
import Derived.Test.YtofplgefmjojjaaGreatDoorSgu
namespace Num
open Go Go.Proofs
theorem flat_none {l : List V2} (h : cvxB l = true) : (flatI (turnL l)).length = 0 := by
 rw [flatI_length]
 refine List.countP_eq_zero.2 fun n hn => ?_
 unfold cvxB at h
 rw [Bool.and_eq_true] at h
 have := of_decide_eq_true (List.all_eq_true.1 h.1 n hn)
 rw [this]; decide
theorem cvx_side {l : List V2} (h : cvxB l = true) {i k : Nat} (hi : i < l.length) (hk : k < l.length) : tri (cr (cor l i) (cor l (i + 1)) (cor l k)) 0 = if k = i ∨ k = (i + 1) % l.length then 0 else 1 := by
 split
 ·rename_i e
  have z : cr (cor l i) (cor l (i + 1)) (cor l k) = 0 := by
   rcases e with e | e
   ·rw [e]; exact cr_left _ _
   ·have : cor l k = cor l (i + 1) := by rw [e]; exact cor_per l (i + 1)
    rw [this]; exact cr_right _ _
  rw [z]; decide
 ·rename_i e
  have := cvx_cx h i k (by rw [Nat.mod_eq_of_lt hi, Nat.mod_eq_of_lt hk]; exact fun q => e (.inl q)) (by rw [Nat.mod_eq_of_lt hk]; exact fun q => e (.inr q))
  unfold tri
  rw [if_neg (by grind), if_pos this]
end Num
namespace Go.Proofs
open Go Go.Sv Num
variable {G : Imm}
theorem crossP3 {u v : V2} {k j : Nat} (h : Bp u k) (h' : Bp v j) (hs : 128 * (k + j) + 23000 ≤ 65536) : PSpec Tryz.prog G 62 [aggS (pcan u), aggS (pcan v)] (aggS (canQ (u.1 * v.2 - u.2 * v.1))) := by
 have := h.x; have := h.y; have := h'.x; have := h'.y
 exact rpCross_spec (by omega)
theorem bp_sub3 {p q : RawP} (hp : LimR p) (hq : LimR q) : Bp (sub2 (pv p) (pv q)) (tsz p + tsz q + 3) := by
 have i1 := (isQ_sz (b := p.1.1) hp.1.1 hp.1.2).bq
 have i2 := (isQ_sz (b := p.2.1) hp.2.1 hp.2.2).bq
 have i3 := (isQ_sz (b := q.1.1) hq.1.1 hq.1.2).bq
 have i4 := (isQ_sz (b := q.2.1) hq.2.1 hq.2.2).bq
 unfold tsz
 exact ⟨bq_le (bq_sub (hp := i1) (hq := i3)) (by omega), bq_le (bq_sub (hp := i2) (hq := i4)) (by omega)⟩
theorem subP3 {p q : RawP} (hp : LimR p) (hq : LimR q) (hs : 64 * (tsz p + tsz q + 4) + 23000 ≤ 65536) : PSpec Tryz.prog G 42 [aggS (pc p), aggS (pc q)] (aggS (pcan (sub2 (pv p) (pv q)))) := by
 have i1 := isQ_sz (b := p.1.1) hp.1.1 hp.1.2
 have i2 := isQ_sz (b := p.2.1) hp.2.1 hp.2.2
 have i3 := isQ_sz (b := q.1.1) hq.1.1 hq.1.2
 have i4 := isQ_sz (b := q.2.1) hq.2.1 hq.2.2
 exact rpSub_spec (hx1 := i1) (hy1 := i2) (hx2 := i3) (hy2 := i4) (by unfold tsz at hs; omega)
theorem rSide_spec {a b p : RawP} (ha : LimR a) (hb : LimR b) (hp : LimR p) (hs : 128 * (tsz a + tsz b + tsz p + tsz a + 6) + 23000 ≤ 65536) : PSpec Tryz.prog G 22 [aggS (pc a), aggS (pc b), aggS (pc p)] (intS .i64 (tri (cr (pv a) (pv b) (pv p)) 0)) := by
 have b1 := bp_sub3 hb ha
 have b2 := bp_sub3 hp ha
 have b3 := bq_cross b1 b2
 refine fn_spec Tryz.func22 rfl rfl rfl ?_
 refine T_regionS ?_
 iterate 4 refine zz ?_
 refine Run.nil ?_
 refine T_drawS 9 (by kernel_rfl) ?_
 refine zo ((show OpOK _ _ _ _ _ (aggS (pc (b))) from ok_load_agg rfl rfl rfl rfl)) ?_
 refine zo ((show OpOK _ _ _ _ _ (aggS (pc (a))) from ok_load_agg rfl rfl rfl rfl)) ?_
 refine zo (ok_call rfl rfl (subP3 hb ha (by omega))) ?_
 refine zo ((show OpOK _ _ _ _ _ (aggS (pc (p))) from ok_load_agg rfl rfl rfl rfl)) ?_
 refine zo ((show OpOK _ _ _ _ _ (aggS (pc (a))) from ok_load_agg rfl rfl rfl rfl)) ?_
 refine zo (ok_call rfl rfl (subP3 hp ha (by omega))) ?_
 refine zo (ok_call rfl rfl (crossP3 b1 b2 (by omega))) ?_
 refine zo (ok_call rfl rfl (show PSpec _ _ _ _ (intS .i64 (tri (cr (pv a) (pv b) (pv p)) 0)) from rqSign_spec (by omega))) ?_
 refine zz ?_
 iterate 2 refine Run.nil ?_
 refine T_ret ?_
 exact ⟨_, [], .one (.tmp rfl), List.nil_sublist _, rfl, rfl⟩
theorem simpleConvex_spec [Tab G] {xs : List RawP} (hx : ∀ p ∈ xs, LimR p) {at0 : Int} : PSpec Tryz.prog G 4 [slS 6 pc xs, intS .i64 at0] (boolS true) := by
 refine fn_spec Tryz.func4 rfl rfl rfl ?_
 refine T_regionS ?_
 refine zz ?_
 refine Run.nil ?_
 refine T_seq ?_
 refine T_len 0 rfl fun lx => ?_
 unfold big at lx
 refine T_regionS ?_
 refine zz ?_
 refine Run.oneB (ok_call rfl rfl great13_spec) rfl rfl rfl (fun h1_1 => ?_) (fun h1_1 => ?_)
 ·refine zz ?_
  iterate 3 refine zq ?_
  iterate 2 refine zz ?_
  iterate 3 refine zq ?_
  refine zz ?_
  refine Run.nil ?_
  refine T_condT rfl rfl ?_
  refine T_regionS ?_
  refine zf wakes13_spec ?_
  refine zz ?_
  refine Run.nil ?_
  refine T_ret ?_
  exact ⟨_, [], .one (.tmp rfl), List.nil_sublist _, rfl, rfl⟩
 ·obtain ⟨hl20, ho80, hts, hsum⟩ := gr13 hx (of_decide_eq_false h1_1)
  iterate 4 refine zz ?_
  refine Run.oneB (ok_pick rfl rfl rfl) rfl rfl rfl (fun h1_6 => ?_) (fun h1_6 => ?_)
  ·have k1_6 := of_decide_eq_true h1_6
   refine zz ?_
   iterate 3 refine zq ?_
   refine zz ?_
   refine Run.nil ?_
   refine T_condT rfl rfl ?_
   refine T_regionS ?_
   refine zf wakes13_spec ?_
   refine zz ?_
   refine Run.nil ?_
   refine T_ret ?_
   exact ⟨_, [], .one (.tmp rfl), List.nil_sublist _, rfl, rfl⟩
  ·have k1_6 := of_decide_eq_false h1_6
   iterate 2 refine zz ?_
   refine zo (ok_call rfl rfl (convex_spec (k := 80) (by decide) ho80 (by unfold cap; omega) (by unfold cap; omega))) ?_
   iterate 2 refine zz ?_
   refine Run.nil ?_
   refine T_cond rfl rfl (fun h24 => ?_) (fun h24 => ?_)
   ·refine T_regionS ?_
    refine zf wakes13_spec ?_
    refine zz ?_
    refine Run.nil ?_
    refine T_ret ?_
    exact ⟨_, [], .one (.tmp rfl), List.nil_sublist _, rfl, rfl⟩
   ·have hcv : cvxB (pvs2 xs) = true := by simpa using h24
    have h3 : 3 ≤ xs.length := by have := (cvx_iff.1 hcv).2.1; rwa [List.length_map] at this
    have hfl := flat_none hcv
    obtain ⟨K, hKn, hKe, hr1, hr2⟩ := ring0 (z := at0) (n := xs.length) (by omega)
    obtain ⟨m0, hm0⟩ : ∃ m0, m0 = at0.tmod (xs.length : Nat) := ⟨_, rfl⟩
    rw [← hm0] at hKe hr1 hr2
    obtain ⟨A, hA⟩ : ∃ A, A = xs.take K := ⟨_, rfl⟩
    obtain ⟨B, hB⟩ : ∃ B, B = xs.drop (K + 1) := ⟨_, rfl⟩
    have hAl : A.length = K := by rw [hA, List.length_take]; omega
    have hBl : B.length = xs.length - (K + 1) := by rw [hB, List.length_drop]
    have hLl : (pvs2 xs).length = xs.length := List.length_map _
    have hcl := cvx_less (K := K) (by rw [hLl]; exact hKn) hcv
    have hRv : pvs2 (A ++ B) = (pvs2 xs).take K ++ (pvs2 xs).drop (K + 1) := by rw [hA, hB, ← List.map_take, ← List.map_drop]; exact List.map_append
    rw [← hRv, hLl] at hcl
    have hRo : ∀ p ∈ A ++ B, PtOk 80 p := fun p hp => by
     rcases List.mem_append.1 hp with hp | hp
     ·exact ho80 p (List.mem_of_mem_take (hA ▸ hp))
     ·exact ho80 p (List.mem_of_mem_drop (hB ▸ hp))
    have hRl : (A ++ B).length ≤ xs.length := by rw [List.length_append]; omega
    refine T_skip ?_
    refine T_seq ?_
    refine T_regionS ?_
    iterate 2 refine zz ?_
    refine zo ((ok_cmp rfl rfl rfl rfl).sub (bool_eq (c := false) (decide_eq_false (by omega)))) ?_
    iterate 2 refine zz ?_
    refine zo (ok_call rfl rfl (flat_spec (k := 80) (by decide) ho80 (by unfold cap; omega) (by unfold cap; omega))) ?_
    refine zo ((ok_len rfl rfl).sub (int_eq (n := 0) (by rw [turnsV_eq, hfl]; rfl))) ?_
    refine zo ((ok_cmp rfl rfl rfl rfl).sub (bool_eq (c := false) rfl)) ?_
    refine zz ?_
    refine Run.nil ?_
    refine T_condF rfl rfl ?_
    refine T_skip ?_
    refine T_seq ?_
    refine T_regionS ?_
    refine zz ?_
    refine Run.nil ?_
    refine T_block ?_
    refine T_loop (γ := Nat) (fun i => ⟨_, [(5, intS .i64 (i : Nat)), (1, intS .i64 at0), (0, slS 6 pc xs)], [], [], (0, false)⟩) (fun i => i ≤ xs.length) (fun i => xs.length - i) 0 (Nat.zero_le _) (ent_g zk) ?_
    intro i hi9
    refine T_seq ?_
    refine T_regionS ?_
    iterate 4 refine zz ?_
    refine Run.nil ?_
    refine T_cond rfl rfl (fun h38 => ?_) (fun h38 => ?_)
    ·have k38 := of_decide_eq_true h38
     have hi : i < xs.length := by omega
     have hed : edOk xs i := ⟨by omega, hi⟩
     have hri : (i + 1) % xs.length < xs.length := Nat.mod_lt _ (by omega)
     have ma : ra xs i ∈ xs := getD_mem hi
     have mb : rb xs i ∈ xs := getD_mem hri
     refine T_skip ?_
     refine T_seq ?_
     refine T_block ?_
     refine T_regionS ?_
     iterate 2 refine zz ?_
     refine zo (ok_call rfl rfl (show PSpec _ _ _ _ (tupS [aggS (pc (ra xs i)), aggS (pc (rb xs i)), boolS true]) from by have := edge_spec (G := G) (xs := xs) (i := i) (by omega); rw [if_pos hed, if_pos hed, decide_eq_true hed] at this; exact this)) ?_
     iterate 4 refine zz ?_
     refine Run.alloc rfl rfl rfl rfl rfl fun b6 => ?_
     refine Run.alloc rfl rfl rfl rfl rfl fun b7 => ?_
     refine zw ?_
     refine Run.ghost _ rfl (ghost_ptr 1 6 rfl rfl) ?_
     refine zw ?_
     refine Run.ghost _ rfl (ghost_ptr 0 7 rfl rfl) ?_
     refine zz ?_
     refine Run.nil ?_
     refine T_seq ?_
     refine T_regionS ?_
     iterate 2 refine zz ?_
     refine Run.nil ?_
     refine T_condF rfl rfl ?_
     refine T_skip ?_
     refine T_regionS ?_
     refine zz ?_
     refine Run.nil ?_
     refine T_block ?_
     refine T_loop (γ := Nat) (fun k => ⟨_, [(9, intS .i64 (k : Nat)), (7, ptrS (pc (rb xs i))), (6, ptrS (pc (ra xs i))), (5, intS .i64 (i : Nat)), (1, intS .i64 at0), (0, slS 6 pc xs)], [], [], (0, false)⟩) (fun k => k ≤ xs.length) (fun k => xs.length - k) 0 (Nat.zero_le _) (ent_g zk) ?_
     intro k hk9
     refine T_seq ?_
     refine T_regionS ?_
     iterate 4 refine zz ?_
     refine Run.nil ?_
     refine T_cond rfl rfl (fun h53 => ?_) (fun h53 => ?_)
     ·have k53 := of_decide_eq_true h53
      have hk : k < xs.length := by omega
      have mk : ra xs k ∈ xs := getD_mem hk
      have hsd := cvx_side hcv (i := i) (k := k) (by rw [hLl]; exact hi) (by rw [hLl]; exact hk)
      rw [cor_pv hi, cor_pv1 hi, cor_pv hk, hLl] at hsd
      obtain ⟨E, hE⟩ : ∃ E, E = decide (k = i ∨ k = (i + 1) % xs.length) := ⟨_, rfl⟩
      have t1 := hts _ ma
      have t2 := hts _ mb
      have t3 := hts _ mk
      obtain ⟨n, hn⟩ : ∃ n, n = tri (cr (pv (ra xs i)) (pv (rb xs i)) (pv (ra xs k))) 0 := ⟨_, rfl⟩
      rw [← hn] at hsd
      refine T_skip ?_
      refine T_seq ?_
      refine T_block ?_
      refine T_drawS 8 (by kernel_rfl) ?_
      refine zo ((show OpOK _ _ _ _ _ (aggS (pc (ra xs i))) from ok_load_agg rfl rfl rfl rfl)) ?_
      refine zo ((show OpOK _ _ _ _ _ (aggS (pc (rb xs i))) from ok_load_agg rfl rfl rfl rfl)) ?_
      iterate 2 refine zz ?_
      refine zo (ok_indexAddr rfl rfl rfl (by omega) (y := ra xs k) (get_getD hk)) ?_
      refine zo ((show OpOK _ _ _ _ _ (aggS (pc (ra xs k))) from ok_load_agg rfl rfl rfl rfl)) ?_
      refine zo (ok_call rfl rfl (show PSpec _ _ _ _ (intS .i64 n) from by rw [hn]; exact rSide_spec (hx _ ma) (hx _ mb) (hx _ mk) (by omega))) ?_
      refine zz ?_
      refine Run.nil ?_
      refine zx ?_
      iterate 2 refine zz ?_
      refine Run.oneB (ok_cmp rfl rfl rfl rfl) rfl rfl rfl (fun h15_2 => ?_) (fun h15_2 => ?_)
      ·have k15_2 := beq_iff_eq.1 h15_2
       refine zz ?_
       iterate 7 refine zq ?_
       refine zo ((ok_pick rfl rfl rfl).sub (bool_eq (c := E) (by rw [hE, decide_eq_true (.inl (by omega))]))) ?_
       refine zz ?_
       refine zx ?_
       refine Run.oneB (ok_move rfl rfl) rfl rfl rfl (fun h16_0 => ?_) (fun h16_0 => ?_)
       ·refine zz ?_
        refine zz ?_
        refine zo ((ok_cmp rfl rfl rfl rfl).sub (bool_eq (c := false) (by rw [hsd, if_pos (of_decide_eq_true (hE.symm.trans h16_0))]; rfl))) ?_
        iterate 2 refine zz ?_
        refine zo ((ok_move rfl rfl).sub (bool_eq (c := true) h16_0)) ?_
        iterate 2 refine zz ?_
        iterate 2 refine zq ?_
        iterate 2 refine zz ?_
        refine Run.nil ?_
        refine T_condF rfl rfl ?_
        refine T_skip ?_
        refine T_region ?_
        refine zz ?_
        refine za ((k + 1 : Nat) : Int) ?_
        refine zz ?_
        refine Run.nil ?_
        exact ⟨k + 1, (by omega : k + 1 ≤ xs.length), by omega, ent_g (subG_cons rfl (subG_cons rfl (subG_cons rfl (subG_cons rfl (subG_cons rfl (subG_cons rfl (trivial)))))))⟩
       ·refine zz ?_
        iterate 2 refine zq ?_
        iterate 2 refine zz ?_
        refine zo ((ok_move rfl rfl).sub (bool_eq (c := false) h16_0)) ?_
        iterate 3 refine zz ?_
        refine zo ((ok_cmp rfl rfl rfl rfl).sub (bool_eq (c := false) (by rw [hsd, if_neg (of_decide_eq_false (hE.symm.trans h16_0))]; rfl))) ?_
        iterate 2 refine zz ?_
        refine Run.nil ?_
        refine T_condF rfl rfl ?_
        refine T_skip ?_
        refine T_region ?_
        refine zz ?_
        refine za ((k + 1 : Nat) : Int) ?_
        refine zz ?_
        refine Run.nil ?_
        exact ⟨k + 1, (by omega : k + 1 ≤ xs.length), by omega, ent_g (subG_cons rfl (subG_cons rfl (subG_cons rfl (subG_cons rfl (subG_cons rfl (subG_cons rfl (trivial)))))))⟩
      ·have k15_2 := beq_eq_false_iff_ne.1 h15_2
       iterate 3 refine zz ?_
       refine za ((i + 1 : Nat) : Int) ?_
       iterate 2 refine zz ?_
       refine zo ((ok_rem rfl rfl rfl (by omega) (by omega)).sub (int_eq (n := (((i + 1) % xs.length : Nat) : Int)) (by simp))) ?_
       refine zz ?_
       refine zo ((ok_pick rfl rfl rfl).sub (bool_eq (c := E) (by rw [hE]; exact decide_eq_decide.2 ⟨fun h => .inr (by omega), fun h => by rcases h with h | h <;> omega⟩))) ?_
       refine zz ?_
       refine zx ?_
       refine Run.oneB (ok_move rfl rfl) rfl rfl rfl (fun h16_0 => ?_) (fun h16_0 => ?_)
       ·refine zz ?_
        refine zz ?_
        refine zo ((ok_cmp rfl rfl rfl rfl).sub (bool_eq (c := false) (by rw [hsd, if_pos (of_decide_eq_true (hE.symm.trans h16_0))]; rfl))) ?_
        iterate 2 refine zz ?_
        refine zo ((ok_move rfl rfl).sub (bool_eq (c := true) h16_0)) ?_
        iterate 2 refine zz ?_
        iterate 2 refine zq ?_
        iterate 2 refine zz ?_
        refine Run.nil ?_
        refine T_condF rfl rfl ?_
        refine T_skip ?_
        refine T_region ?_
        refine zz ?_
        refine za ((k + 1 : Nat) : Int) ?_
        refine zz ?_
        refine Run.nil ?_
        exact ⟨k + 1, (by omega : k + 1 ≤ xs.length), by omega, ent_g (subG_cons rfl (subG_cons rfl (subG_cons rfl (subG_cons rfl (subG_cons rfl (subG_cons rfl (trivial)))))))⟩
       ·refine zz ?_
        iterate 2 refine zq ?_
        iterate 2 refine zz ?_
        refine zo ((ok_move rfl rfl).sub (bool_eq (c := false) h16_0)) ?_
        iterate 3 refine zz ?_
        refine zo ((ok_cmp rfl rfl rfl rfl).sub (bool_eq (c := false) (by rw [hsd, if_neg (of_decide_eq_false (hE.symm.trans h16_0))]; rfl))) ?_
        iterate 2 refine zz ?_
        refine Run.nil ?_
        refine T_condF rfl rfl ?_
        refine T_skip ?_
        refine T_region ?_
        refine zz ?_
        refine za ((k + 1 : Nat) : Int) ?_
        refine zz ?_
        refine Run.nil ?_
        exact ⟨k + 1, (by omega : k + 1 ≤ xs.length), by omega, ent_g (subG_cons rfl (subG_cons rfl (subG_cons rfl (subG_cons rfl (subG_cons rfl (subG_cons rfl (trivial)))))))⟩
     ·have k53 := of_decide_eq_false h53
      refine T_exit ?_
      refine T_region ?_
      refine zz ?_
      refine za ((i + 1 : Nat) : Int) ?_
      refine zz ?_
      refine Run.nil ?_
      exact ⟨i + 1, (by omega : i + 1 ≤ xs.length), by omega, ent_g (subG_cons rfl (subG_cons rfl (subG_cons rfl (trivial))))⟩
    ·have k38 := of_decide_eq_false h38
     refine T_exit ?_
     refine T_regionS ?_
     iterate 3 refine zz ?_
     refine zo ((ok_rem0 rfl rfl rfl (by omega)).sub (int_eq hm0.symm)) ?_
     iterate 2 refine zz ?_
     refine zo (ok_ari (z := m0 + (xs.length : Int)) rfl rfl rfl (congrArg some (by omega)) (wrap_i64 (by omega) (by omega))) ?_
     iterate 2 refine zz ?_
     refine zo ((ok_rem rfl rfl rfl (by omega) (by omega)).sub (int_eq hKe)) ?_
     refine zz ?_
     refine Run.nil ?_
     refine T_drawMPS [1, 2, 3, 5, 6, 7, 8, 0, 4, 9, 10] 10 [7, 8, 9] _ (by kernel_rfl) (by kernel_rfl) .slnil ?_
     iterate 2 refine RunE.lat (ok_move rfl rfl) rfl rfl rfl ?_
     refine RunE.lat ((ok_slice (lo := 0) (hi := K) (m := 0) rfl rfl (.inl ⟨rfl, rfl⟩) (.inr ⟨_, _, rfl, rfl⟩) (.inl rfl) (by omega) (by omega)).sub (show ∀ I v, (slS 6 pc ((xs.take K).drop 0)).den I v → (slS 6 pc A).den I v from fun I v h => by rw [List.drop_zero, ← hA] at h; exact h)) rfl rfl rfl ?_
     iterate 2 refine RunE.lat (ok_move rfl rfl) rfl rfl rfl ?_
     refine RunE.lat (ok_ari (z := ((K + 1 : Nat) : Int)) rfl rfl rfl (congrArg some (by omega)) (wrap_i64 (by omega) (by omega))) rfl rfl rfl ?_
     refine RunE.lat ((ok_slice (lo := K + 1) (hi := xs.length) (m := 0) rfl rfl (.inr ⟨_, _, rfl, rfl⟩) (.inl ⟨rfl, rfl, rfl⟩) (.inl rfl) (by omega) (by omega)).sub (show ∀ I v, (slS 6 pc ((xs.take xs.length).drop (K + 1))).den I v → (slS 6 pc B).den I v from fun I v h => by rw [List.take_length, ← hB] at h; exact h)) rfl rfl rfl ?_
     refine RunE.nil ⟨_, rfl, ?_⟩
     refine .loc0 (l_buildRow rfl rfl (by decide) rfl (.inl rfl) rfl rfl) rfl rfl rfl ?_
     rintro s1 H1 ⟨b98, hb98, rfl, rfl⟩
     refine ⟨(.cons _ .slnil), ?_⟩
     refine RunE.nil ⟨_, rfl, ?_⟩
     refine EffM.append 0 rfl rfl rfl rfl rfl rfl rfl hb98 (rfl) (fun z hz => rfl) (by unfold big; simp; omega) (by unfold big; simp; omega) fun q102 hq102 => ⟨(.cons _ .slnil), ?_⟩
     refine RunE.nil ⟨_, rfl, ?_⟩
     refine EffM.append 0 rfl rfl rfl rfl rfl rfl rfl hq102 (by rw [Nat.zero_add]; exact flatPc A) (fun z hz => rfl) (by unfold big; simp; omega) (by unfold big; simp; omega) fun q107 hq107 => ⟨(.cons _ .slnil), ?_⟩
     refine RunE.nil ?_
     refine zz ?_
     refine Run.nil ?_
     refine T_ghost (ghost_sl 0 12 rfl rfl hq107 (l := A ++ B) (f := pc) (by simp) (by simp [List.flatMap_append]) (fun _ _ => rfl) (by unfold big; simp; omega)) ?_
     refine T_regionS ?_
     refine zz ?_
     refine zo ((ok_call rfl rfl (convex_spec (xs := A ++ B) (k := 80) (by decide) hRo (by unfold cap; omega) (by unfold cap; omega))).sub (bool_eq (c := decide (3 < xs.length)) hcl)) ?_
     iterate 3 refine zz ?_
     refine zo ((ok_eql_bool rfl rfl rfl Tryz.isBool4).sub (bool_eq (c := true) (beq_iff_eq.2 (decide_eq_decide.2 (by omega))))) ?_
     refine zz ?_
     refine zf wakes13_spec ?_
     iterate 2 refine zz ?_
     refine Run.nil ?_
     refine T_ret ?_
     exact ⟨_, [], .one (.tmp rfl), List.nil_sublist _, rfl, rfl⟩
end Go.Proofs
