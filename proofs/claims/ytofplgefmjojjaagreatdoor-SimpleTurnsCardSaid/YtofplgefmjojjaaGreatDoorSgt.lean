/- straitlaw13: the law SimpleTurns, on the facts. -/
import Derived.Test.YtofplgefmjojjaaGreatDoorSge
import Derived.Test.YtofplgefmjojjaaGreatDoorSgs
namespace Num
open Go Go.Proofs
theorem sm_rev (f : Nat → Rat) : ∀ m, Sw.sm (fun i => f (m - 1 - i)) m = Sw.sm f m := by
  intro m
  induction m with
  | zero => rfl
  | succ m ih =>
    have e : Sw.sm (fun i => f (m + 1 - 1 - i)) (m + 1) = f m + Sw.sm (fun i => f (m - 1 - i)) m := by
      have gen : ∀ (g : Nat → Rat) k, Sw.sm g (k + 1) = g 0 + Sw.sm (fun i => g (i + 1)) k := by
        intro g k
        induction k with
        | zero => show 0 + g 0 = g 0 + 0; grind
        | succ k ih2 => show Sw.sm g (k + 1) + g (k + 1) = g 0 + (Sw.sm (fun i => g (i + 1)) k + g (k + 1)); rw [ih2]; grind
      rw [gen]
      show f (m + 1 - 1 - 0) + _ = _
      rw [show m + 1 - 1 - 0 = m by omega]
      congr 1
      exact Sw.sm_congr fun i hi => by rw [show m + 1 - 1 - (i + 1) = m - 1 - i by omega]
    rw [e, ih]
    show f m + Sw.sm f m = Sw.sm f m + f m
    grind
theorem area_reverse (l : List V2) : areaL l.reverse = -areaL l := by
 rcases Nat.eq_zero_or_pos l.length with h0 | h0
 ·have : l = [] := List.eq_nil_of_length_eq_zero h0
  subst this; decide +kernel
 unfold areaL
 rw [Sw.sm_perL, Sw.sm_perL, List.length_reverse]
 obtain ⟨m, hm⟩ : ∃ m, l.length = m + 1 := ⟨l.length - 1, by omega⟩
 rw [hm]
 have hp := cor_per l
 have w0 : cor l (m + 1) = cor l 0 := by rw [← hp (m + 1), hm, Nat.mod_self]
 have a : Sw.sm (fun i => x2 (cor l.reverse i) (cor l.reverse (i + 1))) m = Sw.sm (fun i => (-1) * x2 (cor l (m - 1 - i)) (cor l (m - 1 - i + 1))) m := Sw.sm_congr fun i hi => by
  rw [cor_reverse h0, cor_reverse h0, hm, Nat.mod_eq_of_lt (show i < m + 1 by omega), Nat.mod_eq_of_lt (show i + 1 < m + 1 by omega), show m + 1 - 1 - i = m - 1 - i + 1 by omega, show m + 1 - 1 - (i + 1) = m - 1 - i by omega]
  show (cor l (m - 1 - i + 1)).1 * (cor l (m - 1 - i)).2 - (cor l (m - 1 - i + 1)).2 * (cor l (m - 1 - i)).1 = -1 * ((cor l (m - 1 - i)).1 * (cor l (m - 1 - i + 1)).2 - (cor l (m - 1 - i)).2 * (cor l (m - 1 - i + 1)).1)
  grind
 show Sw.sm (fun i => x2 (cor l.reverse i) (cor l.reverse (i + 1))) m + x2 (cor l.reverse m) (cor l.reverse (m + 1)) = -(Sw.sm (fun i => x2 (cor l i) (cor l (i + 1))) m + x2 (cor l m) (cor l (m + 1)))
 rw [a, Sw.sm_mul, sm_rev (fun i => x2 (cor l i) (cor l (i + 1))) m, cor_reverse h0, cor_reverse h0, hm, Nat.mod_eq_of_lt (show m < m + 1 by omega), Nat.mod_self, w0, show m + 1 - 1 - m = 0 by omega, show m + 1 - 1 - 0 = m by omega]
 show _ + ((cor l 0).1 * (cor l m).2 - (cor l 0).2 * (cor l m).1) = -(_ + ((cor l m).1 * (cor l 0).2 - (cor l m).2 * (cor l 0).1))
 grind
theorem area_add (l : List V2) (v : V2) : areaL (l.map fun p => add2 p v) = areaL l := by
 rcases Nat.eq_zero_or_pos l.length with h0 | h0
 ·have : l = [] := List.eq_nil_of_length_eq_zero h0
  subst this; rfl
 unfold areaL
 rw [Sw.sm_perL, Sw.sm_perL, List.length_map]
 have w0 : cor l l.length = cor l 0 := cor_wrap
 have z := Sw.sm_tel (g := fun i => -x2 (cor l i) v) (lo := 0) (hi := l.length) (Nat.zero_le _) (N := l.length) (Nat.le_refl _)
 rw [show Sw.sm (fun i => x2 (cor (l.map fun p => add2 p v) i) (cor (l.map fun p => add2 p v) (i + 1))) l.length = Sw.sm (fun i => x2 (cor l i) (cor l (i + 1)) + (if 0 ≤ i ∧ i < l.length then -x2 (cor l (i + 1)) v - -x2 (cor l i) v else 0)) l.length from Sw.sm_congr fun i hi => by
  rw [if_pos ⟨Nat.zero_le _, hi⟩, cor_map h0, cor_map h0]
  show ((cor l i).1 + v.1) * ((cor l (i + 1)).2 + v.2) - ((cor l i).2 + v.2) * ((cor l (i + 1)).1 + v.1) = ((cor l i).1 * (cor l (i + 1)).2 - (cor l i).2 * (cor l (i + 1)).1) + (-((cor l (i + 1)).1 * v.2 - (cor l (i + 1)).2 * v.1) - -((cor l i).1 * v.2 - (cor l i).2 * v.1))
  grind, Sw.sm_add, z, w0]
 grind
theorem sim_area {l : List V2} (h : simB l = true) : tri (areaL l) 0 ≠ 0 := fun e => by
 obtain ⟨v, ⟨_, a⟩ | ⟨_, a⟩⟩ := area_turn h
 ·have := tri_pos.2 a; omega
 ·have := tri_lt.2 a; omega
theorem cvx_pos {l : List V2} (h : cvxB l = true) : 0 < areaL l := by
 obtain ⟨ht, hs⟩ := cvx_iff.1 h
 obtain ⟨v, ⟨_, a⟩ | ⟨a, _⟩⟩ := area_turn (sim_iff.2 hs)
 ·exact a
 ·have e : tri (cr (cor l (v + l.length - 1)) (cor l v) (cor l (v + 1))) 0 = 1 := ht v
  have := tri_lt.2 a; omega
theorem cvx_sim {l : List V2} (h : cvxB l = true) : simB l = true := sim_iff.2 (cvx_iff.1 h).2
theorem cvx_way {l : List V2} (h : cvxB l = true) : tri (areaL l) 0 = 1 := by
 have a := cvx_pos h
 unfold tri
 rw [if_neg (by grind), if_pos a]
theorem cvx_rev {l : List V2} (h : cvxB l = true) : cvxB l.reverse = false := by
  cases e : cvxB l.reverse with
  | false => rfl
  | true =>
    have a := cvx_pos h
    have b := cvx_pos e
    rw [area_reverse] at b
    exfalso; grind
def mv3 (b : V2) (l : List RawP) : List RawP := l.map fun p => rep (add2 (pv p) b)
theorem mv3_pv (b : V2) (l : List RawP) : pvs2 (mv3 b l) = (pvs2 l).map fun p => add2 p b := by
 unfold mv3 pvs2; rw [List.map_map, List.map_map]; exact List.map_congr_left fun p _ => pv_rep _
theorem mv3_len (b : V2) (l : List RawP) : (mv3 b l).length = l.length := List.length_map _
theorem mv3_succ (b : V2) {l : List RawP} {g : Nat} {x : RawP} (h : l[g]? = some x) : mv3 b (l.take (g + 1)) = mv3 b (l.take g) ++ [rep (add2 (pv x) b)] := by unfold mv3; rw [List.take_add_one, h]; simp
end Num
namespace Go.Proofs
open Go Go.Sv Num
variable {G : Imm}
theorem addP3 {p q : RawP} (hp : LimR p) (hq : LimR q) (hs : 64 * (tsz p + tsz q + 4) + 23000 ≤ 65536) : PSpec Tryz.prog G 15 [aggS (pc p), aggS (pc q)] (aggS (pcan (add2 (pv p) (pv q)))) := by
 have i1 := isQ_sz (b := p.1.1) hp.1.1 hp.1.2
 have i2 := isQ_sz (b := p.2.1) hp.2.1 hp.2.2
 have i3 := isQ_sz (b := q.1.1) hq.1.1 hq.1.2
 have i4 := isQ_sz (b := q.2.1) hq.2.1 hq.2.2
 exact rpAdd_spec (hx1 := i1) (hy1 := i2) (hx2 := i3) (hy2 := i4) (by unfold tsz at hs; omega)
theorem mv3_ok {w : RawP} {xs : List RawP} (hw : LimR w) (hx : ∀ p ∈ xs, LimR p) (hwt : tsz w ≤ 80) (ht : ∀ p ∈ xs, tsz p ≤ 80) : ∀ p ∈ mv3 (pv w) xs, PtOk 400 p := fun p hp => by
 unfold mv3 at hp
 obtain ⟨q, hq, rfl⟩ := List.mem_map.1 hp
 have lq := hx q hq
 have tq := ht q hq
 have i1 := isQ_sz (b := q.1.1) lq.1.1 lq.1.2
 have i2 := isQ_sz (b := q.2.1) lq.2.1 lq.2.2
 have i3 := isQ_sz (b := w.1.1) hw.1.1 hw.1.2
 have i4 := isQ_sz (b := w.2.1) hw.2.1 hw.2.2
 unfold tsz at tq hwt
 exact ptOk_rep (bq_le (bq_add (hp := i1.bq) (hq := i3.bq)) (by omega)) (bq_le (bq_add (hp := i2.bq) (hq := i4.bq)) (by omega))
theorem simpleTurns_spec [Tab G] {xs : List RawP} (hx : ∀ p ∈ xs, LimR p) (hsz : xs.length * 112 ≤ 140737488351232) {at0 : Int} {w : RawP} (hlw : LimR w) : PSpec Tryz.prog G 3 [slS 6 pc xs, intS .i64 at0, aggS (pc w)] (boolS true) := by
 refine fn_spec Tryz.func3 rfl rfl rfl ?_
 refine T_regionS ?_
 iterate 2 refine zz ?_
 refine Run.nil ?_
 refine T_seq ?_
 refine T_seqQ (K := fun S1 => ∃ c : Bool, (c = false → (¬ (20 < (xs ++ [w]).length ∨ 80 < gs tsz (xs ++ [w]) (xs ++ [w]).length)) ∧ xs.length ≤ 10 ∧ xs.length ≠ 0) ∧ Ent S1 ⟨158, [(29, boolS c), (5, ptrS (pc w)), (1, intS .i64 at0), (0, slS 6 pc xs)], [], [], (0, false)⟩) ?_ ?_
 ·refine T_len 0 rfl fun lx => ?_
  unfold big at lx
  refine T_drawMP [1, 3, 4, 0, 2, 5, 6, 7, 8, 9, 10, 11, 12, 13, 14, 15, 16] 6 [3, 4, 5] _ (by kernel_rfl) (by kernel_rfl) .slnil ?_
  refine RunE.lat (ok_move rfl rfl) rfl rfl rfl ?_
  refine RunE.lat ((show OpOK _ _ _ _ _ (aggS (pc (w))) from ok_load_agg rfl rfl rfl rfl)) rfl rfl rfl ?_
  refine RunE.lat (ok_buildSlice rfl rfl (by decide) rfl (by simp) rfl rfl) rfl rfl rfl ?_
  refine RunE.nil ⟨_, rfl, ?_⟩
  refine .loc0 (l_buildRow rfl rfl (by decide) rfl (.inl rfl) rfl rfl) rfl rfl rfl ?_
  rintro s1 H1 ⟨b13, hb13, rfl, rfl⟩
  refine ⟨(.cons _ .slnil), ?_⟩
  refine RunE.nil ⟨_, rfl, ?_⟩
  refine EffM.append 0 rfl rfl rfl rfl rfl rfl rfl hb13 (rfl) (fun z hz => rfl) (by unfold big; simp; omega) (by unfold big; simp; omega) fun q15 hq15 => ⟨(.cons _ .slnil), ?_⟩
  refine RunE.nil ⟨_, rfl, ?_⟩
  refine EffM.append 0 rfl rfl rfl rfl rfl rfl rfl hq15 (by rw [Nat.zero_add]; exact flatPc xs) (fun z hz => by rw [List.mem_singleton.1 hz]; rfl) (by unfold big; simp; omega) (by unfold big; simp; omega) fun q18 hq18 => ⟨(.cons _ .slnil), ?_⟩
  refine RunE.nil ?_
  refine Run.ghost _ rfl (ghost_sl 0 18 rfl rfl hq18 (l := xs ++ [w]) (f := pc) (by simp) (by simp [List.flatMap_append]) (fun _ _ => rfl) (by unfold big; simp; omega)) ?_
  refine Run.oneB (ok_call rfl rfl great13_spec) rfl rfl rfl (fun h1_6 => ?_) (fun h1_6 => ?_)
  ·refine zz ?_
   iterate 3 refine zq ?_
   iterate 2 refine zz ?_
   iterate 3 refine zq ?_
   refine zz ?_
   refine Run.nil ?_
   exact ⟨true, (fun h => by cases h), ent_g (subG_cons rfl (subG_cons rfl (subG_cons rfl (subG_cons rfl (trivial)))))⟩
  ·refine zz ?_
   iterate 3 refine zz ?_
   refine Run.oneB (ok_pick rfl rfl rfl) rfl rfl rfl (fun h1_11 => ?_) (fun h1_11 => ?_)
   ·have k1_11 := of_decide_eq_true h1_11
    refine zz ?_
    iterate 3 refine zq ?_
    refine zz ?_
    refine Run.nil ?_
    exact ⟨true, (fun h => by cases h), ent_g (subG_cons rfl (subG_cons rfl (subG_cons rfl (subG_cons rfl (trivial)))))⟩
   ·have k1_11 := of_decide_eq_false h1_11
    iterate 5 refine zz ?_
    refine Run.nil ?_
    exact ⟨_, (fun h => by have h9 := of_decide_eq_false h; refine ⟨of_decide_eq_false h1_6, ?_, ?_⟩ <;> omega), ent_g (subG_cons rfl (subG_cons rfl (subG_cons rfl (subG_cons rfl (trivial)))))⟩
 ·rintro S1 ⟨c, hc, hS1⟩
  refine T_pre hS1 ?_
  refine T_cond rfl rfl (fun h29 => ?_) (fun h29 => ?_)
  ·refine T_regionS ?_
   refine zf wakes13_spec ?_
   refine zz ?_
   refine Run.nil ?_
   refine T_ret ?_
   exact ⟨_, [], .one (.tmp rfl), List.nil_sublist _, rfl, rfl⟩
  ·obtain ⟨hg, hn10, hn0⟩ := hc h29
   have hxw : ∀ p ∈ xs ++ [w], LimR p := fun p hp => by rcases List.mem_append.1 hp with hp | hp; exact hx p hp; rw [List.mem_singleton.1 hp]; exact hlw
   obtain ⟨_, ho81, hts1, hsum1⟩ := gr13 hxw hg
   rw [List.map_append, nsum_app] at hsum1
   have ho80 : ∀ p ∈ xs, PtOk 80 p := fun p hp => ho81 p (List.mem_append_left _ hp)
   have hts : ∀ p ∈ xs, tsz p ≤ 80 := fun p hp => hts1 p (List.mem_append_left _ hp)
   have hwt : tsz w ≤ 80 := hts1 w (List.mem_append_right _ (List.mem_singleton.2 rfl))
   obtain ⟨K, hKn, hKe, hr1, hr2⟩ := ring0 (z := at0) (n := xs.length) (by omega)
   obtain ⟨m0, hm0⟩ : ∃ m0, m0 = at0.tmod (xs.length : Nat) := ⟨_, rfl⟩
   rw [← hm0] at hKe hr1 hr2
   obtain ⟨A, hA⟩ : ∃ A, A = xs.take K := ⟨_, rfl⟩
   obtain ⟨B, hB⟩ : ∃ B, B = xs.drop K := ⟨_, rfl⟩
   have hAl : A.length = K := by rw [hA, List.length_take]; omega
   have hBl : B.length = xs.length - K := by rw [hB, List.length_drop]
   have hAv : pvs2 A = (pvs2 xs).take K := by rw [hA]; exact List.map_take
   have hBv : pvs2 B = (pvs2 xs).drop K := by rw [hB]; exact List.map_drop
   have hLl : (pvs2 xs).length = xs.length := List.length_map _
   have hRv : pvs2 (B ++ A) = (pvs2 xs).drop K ++ (pvs2 xs).take K := by rw [← hAv, ← hBv]; exact List.map_append
   have hRo : ∀ p ∈ (B ++ A), PtOk 80 p := fun p hp => by
    rcases List.mem_append.1 hp with hp | hp
    ·exact ho80 p (List.mem_of_mem_drop (hB ▸ hp))
    ·exact ho80 p (List.mem_of_mem_take (hA ▸ hp))
   have hRl : (B ++ A).length = xs.length := by rw [List.length_append]; omega
   have hVv : pvs2 xs.reverse = (pvs2 xs).reverse := List.map_reverse
   have hVo : ∀ p ∈ xs.reverse, PtOk 80 p := fun p hp => ho80 p (List.mem_reverse.1 hp)
   have hVl : xs.reverse.length = xs.length := List.length_reverse
   have hMv := mv3_pv (pv w) xs
   have hMo := mv3_ok hlw hx hwt hts
   have hMl := mv3_len (pv w) xs
   obtain ⟨S0, hS0⟩ : ∃ S0, S0 = simB (pvs2 xs) := ⟨_, rfl⟩
   obtain ⟨C0, hC0⟩ : ∃ C0, C0 = cvxB (pvs2 xs) := ⟨_, rfl⟩
   obtain ⟨A0, hA0⟩ : ∃ A0, A0 = areaL (pvs2 xs) := ⟨_, rfl⟩
   obtain ⟨W0, hW0⟩ : ∃ W0, W0 = tri (areaL (pvs2 xs)) 0 := ⟨_, rfl⟩
   have bA : Bq A0 230 := by rw [hA0]; exact bq_le (bq_area2 hx) (by omega)
   have sR : simB (pvs2 (B ++ A)) = S0 := by rw [hRv, simB_rot (by omega), hS0]
   have sV : simB (pvs2 xs.reverse) = S0 := by rw [hVv, simB_reverse, hS0]
   have sM : simB (pvs2 (mv3 (pv w) xs)) = S0 := by rw [hMv, simB_add, hS0]
   have cR : cvxB (pvs2 (B ++ A)) = C0 := by rw [hRv, cvx_rot (by omega), hC0]
   have cM : cvxB (pvs2 (mv3 (pv w) xs)) = C0 := by rw [hMv, cvx_add, hC0]
   have aR : areaL (pvs2 (B ++ A)) = A0 := by rw [hRv, area_rot (by omega), hA0]
   have aV : areaL (pvs2 xs.reverse) = -A0 := by rw [hVv, area_reverse, hA0]
   have aM : areaL (pvs2 (mv3 (pv w) xs)) = A0 := by rw [hMv, area_add, hA0]
   have hSW : S0 = true → W0 ≠ 0 := fun e => by rw [hW0]; exact sim_area (by rw [← hS0]; exact e)
   have hCW : C0 = true → W0 = 1 := fun e => by rw [hW0]; exact cvx_way (by rw [← hC0]; exact e)
   have hCS : C0 = true → S0 = true := fun e => by rw [hS0]; exact cvx_sim (by rw [← hC0]; exact e)
   have hCR : C0 = true → cvxB (pvs2 xs.reverse) = false := fun e => by rw [hVv]; exact cvx_rev (by rw [← hC0]; exact e)
   refine T_skip ?_
   refine T_regionS ?_
   iterate 3 refine zz ?_
   refine zo ((ok_rem0 rfl rfl rfl (by omega)).sub (int_eq hm0.symm)) ?_
   iterate 2 refine zz ?_
   refine zo (ok_ari (z := m0 + (xs.length : Int)) rfl rfl rfl (congrArg some (by omega)) (wrap_i64 (by omega) (by omega))) ?_
   iterate 2 refine zz ?_
   refine zo ((ok_rem rfl rfl rfl (by omega) (by omega)).sub (int_eq hKe)) ?_
   refine zz ?_
   refine zx ?_
   refine zz ?_
   refine zo ((ok_call rfl rfl (simple_spec (xs := xs) (k := 80) (by decide) ho80 (by unfold cap; omega))).sub (bool_eq (c := S0) hS0.symm)) ?_
   refine zz ?_
   refine zo (ok_call rfl rfl (show PSpec _ _ _ _ (aggS (canQ A0)) from by rw [hA0]; exact area_spec (k := 80) (by decide) ho80 (by unfold cap; omega))) ?_
   refine Run.alloc rfl rfl rfl rfl rfl fun b8 => ?_
   refine zz ?_
   refine zw ?_
   refine Run.nil ?_
   refine T_drawMPS [1, 2, 3, 5, 6, 7, 0, 4, 8, 9] 9 [6, 7, 8] _ (by kernel_rfl) (by kernel_rfl) (.cons _ .slnil) ?_
   iterate 2 refine RunE.lat (ok_move rfl rfl) rfl rfl rfl ?_
   refine RunE.lat ((ok_slice (lo := K) (hi := xs.length) (m := 0) rfl rfl (.inr ⟨_, _, rfl, rfl⟩) (.inl ⟨rfl, rfl, rfl⟩) (.inl rfl) (by omega) (by omega)).sub (show ∀ I v, (slS 6 pc ((xs.take xs.length).drop K)).den I v → (slS 6 pc B).den I v from fun I v h => by rw [List.take_length, ← hB] at h; exact h)) rfl rfl rfl ?_
   iterate 2 refine RunE.lat (ok_move rfl rfl) rfl rfl rfl ?_
   refine RunE.lat ((ok_slice (lo := 0) (hi := K) (m := 0) rfl rfl (.inl ⟨rfl, rfl⟩) (.inr ⟨_, _, rfl, rfl⟩) (.inl rfl) (by omega) (by omega)).sub (show ∀ I v, (slS 6 pc ((xs.take K).drop 0)).den I v → (slS 6 pc A).den I v from fun I v h => by rw [List.drop_zero, ← hA] at h; exact h)) rfl rfl rfl ?_
   refine RunE.nil ⟨_, rfl, ?_⟩
   refine .loc0 (l_buildRow rfl rfl (by decide) rfl (.inl rfl) rfl rfl) rfl rfl rfl ?_
   rintro s1 H1 ⟨b45, hb45, rfl, rfl⟩
   refine ⟨(.cons _ (.cons _ .slnil)), ?_⟩
   refine RunE.nil ⟨_, rfl, ?_⟩
   refine EffM.append 0 rfl rfl rfl rfl rfl rfl rfl hb45 (rfl) (fun z hz => rfl) (by unfold big; simp; omega) (by unfold big; simp; omega) fun q49 hq49 => ⟨(.cons _ (.cons _ .slnil)), ?_⟩
   refine RunE.nil ⟨_, rfl, ?_⟩
   refine EffM.append 0 rfl rfl rfl rfl rfl rfl rfl hq49 (by rw [Nat.zero_add]; exact flatPc B) (fun z hz => rfl) (by unfold big; simp; omega) (by unfold big; simp; omega) fun q53 hq53 => ⟨(.cons _ (.cons _ .slnil)), ?_⟩
   refine RunE.nil ?_
   refine zz ?_
   refine Run.nil ?_
   refine T_ghost (ghost_sl 0 9 rfl rfl hq53 (l := (B ++ A)) (f := pc) (by simp) (by simp [List.flatMap_append]) (fun _ _ => rfl) (by unfold big; simp; omega)) ?_
   refine T_regionS ?_
   iterate 2 refine zz ?_
   refine Run.nil ?_
   refine T_seq ?_
   refine T_regionS ?_
   refine zz ?_
   refine Run.nil ?_
   refine T_block ?_
   iterate 2 refine T_ghost (ghost_row 30 6) ?_
   refine T_loop3 (fun (g : Nat) (q1 q2 : Option (Nat × Nat)) => ⟨158, [(12, intS .i64 (g : Nat)), (11, eqS (rowV q2 g)), (10, eqS (rowV q1 g)), (9, slS 6 pc (B ++ A)), (8, eqS (.pointer (some ⟨b8, 0, none⟩))), (7, boolS S0), (5, ptrS (pc w)), (1, intS .i64 K), (0, slS 6 pc xs)], [rowE q2 30 6 g ((mv3 (pv w) (xs.take g)).flatMap pc), rowE q1 30 6 g ((xs.reverse.take g).flatMap pc), ⟨some b8, 28, canQ A0, 0⟩], [], (0, false)⟩) (fun g q1 q2 => g ≤ xs.length ∧ rowOk q1 g ∧ rowOk q2 g) (fun g _ _ => xs.length - g) 0 none none ⟨Nat.zero_le _, rfl, rfl⟩ (ent_h zk rfl) ?_
   rintro g q1 q2 ⟨hg9, hq1, hq2⟩
   refine T_seq ?_
   refine T_regionS ?_
   iterate 4 refine zz ?_
   refine Run.nil ?_
   refine T_cond rfl rfl (fun h57 => ?_) (fun h57 => ?_)
   ·have k57 := of_decide_eq_true h57
    have hgn : g < xs.length := by omega
    obtain ⟨p1, hp1⟩ : ∃ p, xs[g]? = some p := ⟨_, List.getElem?_eq_getElem hgn⟩
    obtain ⟨p0, hp0⟩ : ∃ p, xs[xs.length - 1 - g]? = some p := ⟨_, List.getElem?_eq_getElem (by omega)⟩
    have m1 := List.mem_of_getElem? hp1
    have hsr : xs.reverse.take (g + 1) = xs.reverse.take g ++ [p0] := by rw [List.take_add_one, List.getElem?_reverse hgn, hp0]; rfl
    have hsm := mv3_succ (pv w) hp1
    have hl1 : (xs.reverse.take g).length = g := by rw [List.length_take, List.length_reverse]; omega
    have hl2 : (mv3 (pv w) (xs.take g)).length = g := by rw [mv3_len, List.length_take]; omega
    have t1 := hts p1 m1
    have t2 : tsz p1 + tsz w ≤ 160 := by omega
    refine T_skip ?_
    refine T_seq ?_
    refine T_block ?_
    refine T_regionS ?_
    iterate 4 refine zz ?_
    refine za ((xs.length - 1 : Nat) : Int) ?_
    refine zz ?_
    refine za ((xs.length - 1 - g : Nat) : Int) ?_
    refine zo (ok_indexAddr rfl rfl rfl (by omega) (y := p0) (hp0)) ?_
    refine zo ((show OpOK _ _ _ _ _ (aggS (pc (p0))) from ok_load_agg rfl rfl rfl rfl)) ?_
    refine zo (ok_buildSlice rfl rfl (by decide) rfl (by simp) (by kernel_rfl) (by kernel_rfl)) ?_
    refine Run.append 1 rfl rfl rfl rfl rfl rfl rfl rfl hq1 (by rw [flatPc, hl1]) (fun z hz => by rw [List.mem_singleton.1 hz]; rfl) (by unfold big; simp; omega) (by unfold big; simp; omega) fun q70 hq70 => ?_
    refine zz ?_
    refine Run.nil ?_
    refine T_drawM 9 [8] _ (by kernel_rfl) (.cons _ (.cons _ (.cons _ .slnil))) ?_
    iterate 3 refine RunE.one (ok_move rfl rfl) rfl rfl rfl (by kernel_rfl) ?_
    refine RunE.one (ok_indexAddr rfl rfl rfl (by omega) (y := p1) (hp1)) rfl rfl rfl (by kernel_rfl) ?_
    refine RunE.one ((show OpOK _ _ _ _ _ (aggS (pc (p1))) from ok_load_agg rfl rfl rfl rfl)) rfl rfl rfl (by kernel_rfl) ?_
    refine RunE.one ((show OpOK _ _ _ _ _ (aggS (pc (w))) from ok_load_agg rfl rfl rfl rfl)) rfl rfl rfl (by kernel_rfl) ?_
    refine RunE.one (ok_call rfl rfl (addP3 (p := p1) (q := w) (hx p1 m1) hlw (by omega))) rfl rfl rfl (by kernel_rfl) ?_
    refine RunE.one (ok_buildSlice rfl rfl (by decide) rfl (by simp) (by kernel_rfl) (by kernel_rfl)) rfl rfl rfl (by kernel_rfl) ?_
    refine RunE.nil ⟨_, rfl, ?_⟩
    refine EffM.append 0 rfl rfl rfl rfl rfl rfl rfl hq2 (by rw [flatPc, hl2]) (fun z hz => by rw [List.mem_singleton.1 hz]; rfl) (by unfold big; simp; omega) (by unfold big; simp; omega) fun q79 hq79 => ⟨(.cons _ (.cons _ (.cons _ .slnil))), ?_⟩
    refine RunE.nil ?_
    refine zz ?_
    refine Run.nil ?_
    refine T_region ?_
    refine zz ?_
    refine za ((g + 1 : Nat) : Int) ?_
    refine zz ?_
    refine Run.nil ?_
    exact ⟨g + 1, q70, q79, ⟨by omega, hq70, hq79⟩, by omega, ent_h (subG_cons rfl (subG_cons rfl (subG_cons rfl (subG_cons rfl (subG_cons rfl (subG_cons rfl (subG_cons rfl (subG_cons rfl (subG_cons rfl (trivial)))))))))) (by rw [hsm, hsr, List.flatMap_append, List.flatMap_append]; rfl)⟩
   ·have k57 := of_decide_eq_false h57
    obtain rfl : g = xs.length := by omega
    rw [List.take_length, show xs.reverse.take xs.length = xs.reverse from List.take_of_length_le (by rw [List.length_reverse]; exact Nat.le_refl _)]
    refine T_exit ?_
    refine T_seq ?_
    refine T_ghost (ghost_sl 0 11 rfl rfl hq2 (l := (mv3 (pv w) xs)) (f := pc) hMl rfl (fun _ _ => rfl) (by unfold big; omega)) ?_
    refine T_ghost (ghost_sl 0 10 rfl rfl hq1 (l := xs.reverse) (f := pc) hVl rfl (fun _ _ => rfl) (by unfold big; omega)) ?_
    refine T_regionS ?_
    refine zz ?_
    refine zo ((ok_call rfl rfl (simple_spec (xs := (B ++ A)) (k := 80) (by decide) hRo (by unfold cap; omega))).sub (bool_eq (c := S0) sR)) ?_
    refine zz ?_
    refine zo ((ok_neq_bool rfl rfl rfl Tryz.isBool4).sub (bool_eq (c := false) (by simp))) ?_
    iterate 2 refine zz ?_
    refine zo ((ok_call rfl rfl (simple_spec (xs := xs.reverse) (k := 80) (by decide) hVo (by unfold cap; omega))).sub (bool_eq (c := S0) sV)) ?_
    refine zz ?_
    refine zo ((ok_neq_bool rfl rfl rfl Tryz.isBool4).sub (bool_eq (c := false) (by simp))) ?_
    iterate 3 refine zz ?_
    refine zo ((ok_call rfl rfl (simple_spec (xs := (mv3 (pv w) xs)) (k := 400) (by decide) hMo (by unfold cap; omega))).sub (bool_eq (c := S0) sM)) ?_
    refine zz ?_
    refine zo ((ok_neq_bool rfl rfl rfl Tryz.isBool4).sub (bool_eq (c := false) (by simp))) ?_
    iterate 3 refine zz ?_
    refine zo ((ok_call rfl rfl (convex_spec (xs := (B ++ A)) (k := 80) (by decide) hRo (by unfold cap; omega) (by rw [hRl]; unfold cap; omega))).sub (bool_eq (c := C0) cR)) ?_
    refine zz ?_
    refine zo ((ok_call rfl rfl (convex_spec (xs := xs) (k := 80) (by decide) ho80 (by unfold cap; omega) (by rw [show xs.length = xs.length from rfl]; unfold cap; omega))).sub (bool_eq (c := C0) hC0.symm)) ?_
    refine zo ((ok_neq_bool rfl rfl rfl Tryz.isBool4).sub (bool_eq (c := false) (by simp))) ?_
    iterate 3 refine zz ?_
    refine zo ((ok_call rfl rfl (convex_spec (xs := (mv3 (pv w) xs)) (k := 400) (by decide) hMo (by unfold cap; omega) (by rw [hMl]; unfold cap; omega))).sub (bool_eq (c := C0) cM)) ?_
    refine zz ?_
    refine zo ((ok_call rfl rfl (convex_spec (xs := xs) (k := 80) (by decide) ho80 (by unfold cap; omega) (by rw [show xs.length = xs.length from rfl]; unfold cap; omega))).sub (bool_eq (c := C0) hC0.symm)) ?_
    refine zo ((ok_neq_bool rfl rfl rfl Tryz.isBool4).sub (bool_eq (c := false) (by simp))) ?_
    refine zz ?_
    refine Run.nil ?_
    refine T_condF rfl rfl ?_
    refine T_skip ?_
    refine T_seq ?_
    refine T_drawS 20 (by kernel_rfl) ?_
    refine zz ?_
    refine zo (ok_call rfl rfl (show PSpec _ _ _ _ (aggS (canQ A0)) from by rw [← aR]; exact area_spec (k := 80) (by decide) hRo (by rw [hRl]; unfold cap; omega))) ?_
    refine zo ((show OpOK _ _ _ _ _ (aggS (canQ A0)) from ok_load_own_agg 0 rfl rfl rfl (by kernel_rfl) rfl)) ?_
    refine zo ((ok_call rfl rfl (rqsame_spec (by omega))).sub (bool_eq (c := true) (decide_eq_true rfl))) ?_
    iterate 3 refine zz ?_
    refine zo (ok_call rfl rfl (show PSpec _ _ _ _ (aggS (canQ (-A0))) from by rw [← aV]; exact area_spec (k := 80) (by decide) hVo (by rw [hVl]; unfold cap; omega))) ?_
    refine zo ((show OpOK _ _ _ _ _ (aggS (canQ A0)) from ok_load_own_agg 0 rfl rfl rfl (by kernel_rfl) rfl)) ?_
    refine zo (ok_call rfl rfl (rqneg_spec (by omega))) ?_
    refine zo ((ok_call rfl rfl (rqsame_spec (by omega))).sub (bool_eq (c := true) (decide_eq_true rfl))) ?_
    iterate 4 refine zz ?_
    refine zo (ok_call rfl rfl (show PSpec _ _ _ _ (aggS (canQ A0)) from by rw [← aM]; exact area_spec (k := 400) (by decide) hMo (by rw [hMl]; unfold cap; omega))) ?_
    refine zo ((show OpOK _ _ _ _ _ (aggS (canQ A0)) from ok_load_own_agg 0 rfl rfl rfl (by kernel_rfl) rfl)) ?_
    refine zo ((ok_call rfl rfl (rqsame_spec (by omega))).sub (bool_eq (c := true) (decide_eq_true rfl))) ?_
    iterate 2 refine zz ?_
    iterate 2 refine Run.nil ?_
    refine T_condF rfl rfl ?_
    refine T_skip ?_
    refine T_regionS ?_
    refine zz ?_
    refine Run.oneB (ok_not rfl rfl) rfl rfl rfl (fun h16_1 => ?_) (fun h16_1 => ?_)
    ·refine zz ?_
     iterate 3 refine zq ?_
     iterate 3 refine zz ?_
     refine zo ((ok_call rfl rfl (convex_spec (xs := xs) (k := 80) (by decide) ho80 (by unfold cap; omega) (by rw [show xs.length = xs.length from rfl]; unfold cap; omega))).sub (bool_eq (c := C0) hC0.symm)) ?_
     refine Run.oneB (ok_not rfl rfl) (gB rfl rfl rfl rfl) rfl rfl (fun h16_10 => ?_) (fun h16_10 => ?_)
     ·refine zz ?_
      iterate 11 refine zq ?_
      iterate 3 refine zz ?_
      refine zf wakes13_spec ?_
      iterate 2 refine zz ?_
      refine Run.nil ?_
      refine T_ret ?_
      exact ⟨_, [], .one (.tmp rfl), List.nil_sublist _, rfl, rfl⟩
     ·refine zz ?_
      refine zo ((ok_move rfl rfl).sub (bool_eq (c := true) (hCS (by simpa using h16_10)))) ?_
      iterate 2 refine zz ?_
      refine zo ((ok_call rfl rfl (way_spec (k := 80) (by decide) ho80 (by unfold cap; omega))).sub (int_eq (n := W0) hW0.symm)) ?_
      refine zo ((ok_cmp rfl rfl rfl rfl).sub (bool_eq (c := true) (by simpa using hCW (by simpa using h16_10)))) ?_
      iterate 3 refine zz ?_
      refine zo ((ok_call rfl rfl (convex_spec (xs := xs.reverse) (k := 80) (by decide) hVo (by unfold cap; omega) (by rw [hVl]; unfold cap; omega))).sub (bool_eq (c := false) (hCR (by simpa using h16_10)))) ?_
      iterate 5 refine zz ?_
      refine zf wakes13_spec ?_
      iterate 2 refine zz ?_
      refine Run.nil ?_
      refine T_ret ?_
      exact ⟨_, [], .one (.tmp rfl), List.nil_sublist _, rfl, rfl⟩
    ·refine zz ?_
     refine zz ?_
     refine zo ((ok_call rfl rfl (way_spec (k := 80) (by decide) ho80 (by unfold cap; omega))).sub (int_eq (n := W0) hW0.symm)) ?_
     refine zo ((ok_cmp rfl rfl rfl rfl).sub (bool_eq (c := true) (by simpa using hSW (by simpa using h16_1)))) ?_
     iterate 3 refine zz ?_
     refine zo ((ok_call rfl rfl (convex_spec (xs := xs) (k := 80) (by decide) ho80 (by unfold cap; omega) (by rw [show xs.length = xs.length from rfl]; unfold cap; omega))).sub (bool_eq (c := C0) hC0.symm)) ?_
     refine Run.oneB (ok_not rfl rfl) (gB rfl rfl rfl rfl) rfl rfl (fun h16_10 => ?_) (fun h16_10 => ?_)
     ·refine zz ?_
      iterate 11 refine zq ?_
      iterate 3 refine zz ?_
      refine zf wakes13_spec ?_
      iterate 2 refine zz ?_
      refine Run.nil ?_
      refine T_ret ?_
      exact ⟨_, [], .one (.tmp rfl), List.nil_sublist _, rfl, rfl⟩
     ·refine zz ?_
      refine zo ((ok_move rfl rfl).sub (bool_eq (c := true) (hCS (by simpa using h16_10)))) ?_
      iterate 2 refine zz ?_
      refine zo ((ok_call rfl rfl (way_spec (k := 80) (by decide) ho80 (by unfold cap; omega))).sub (int_eq (n := W0) hW0.symm)) ?_
      refine zo ((ok_cmp rfl rfl rfl rfl).sub (bool_eq (c := true) (by simpa using hCW (by simpa using h16_10)))) ?_
      iterate 3 refine zz ?_
      refine zo ((ok_call rfl rfl (convex_spec (xs := xs.reverse) (k := 80) (by decide) hVo (by unfold cap; omega) (by rw [hVl]; unfold cap; omega))).sub (bool_eq (c := false) (hCR (by simpa using h16_10)))) ?_
      iterate 5 refine zz ?_
      refine zf wakes13_spec ?_
      iterate 2 refine zz ?_
      refine Run.nil ?_
      refine T_ret ?_
      exact ⟨_, [], .one (.tmp rfl), List.nil_sublist _, rfl, rfl⟩
end Go.Proofs
