/- Polygons: strictly convex, area, which way about, flat corners. -/
import Derived.Test.YtofplgefmjojjaaGreatDoorSgf
namespace Num
open Go Go.Proofs
def idxF {α : Type} (p : α → Bool) (l : List α) : Int := if l.any p = true then (l.findIdx p : Nat) else -1
theorem any_succ {α : Type} {p : α → Bool} {l : List α} {g : Nat} {x : α} (h : l[g]? = some x) (hp : p x = false) (hn : (l.take g).any p = false) : (l.take (g + 1)).any p = false := by
  rw [List.take_add_one, h, List.any_append, hn]; simp [hp]
theorem idx_hit {α : Type} {p : α → Bool} {l : List α} {g : Nat} {x : α} (h : l[g]? = some x) (hp : p x = true) (hn : (l.take g).any p = false) : idxF p l = (g : Nat) := by
  obtain ⟨hg, he⟩ := List.getElem?_eq_some_iff.1 h
  have h1 : l.any p = true := List.any_eq_true.2 ⟨x, List.mem_of_getElem? h, hp⟩
  unfold idxF
  rw [if_pos h1, (List.findIdx_eq hg).2 ⟨by rw [he]; exact hp, fun j hj => ?_⟩]
  have hm : l[j] ∈ l.take g := List.mem_of_getElem? (i := j) (by rw [List.getElem?_take_of_lt hj, List.getElem?_eq_getElem])
  have h2 := List.any_eq_false.1 hn _ hm
  simpa using h2
theorem idx_none {α : Type} {p : α → Bool} {l : List α} (hn : l.any p = false) : idxF p l = -1 := by unfold idxF; rw [hn]; rfl
theorem idx_ge {α : Type} (p : α → Bool) (l : List α) : decide (0 ≤ idxF p l) = l.any p := by
  unfold idxF
  cases h : l.any p with
  | true => rw [if_pos rfl]; exact decide_eq_true (Int.natCast_nonneg _)
  | false => rfl
def flA (t : List Int) (g : Nat) : List Int := ((List.range g).filter fun i => decide (t.getD i 1 = 0)).map fun (i : Nat) => (i : Int)
theorem flA_succ {t : List Int} {g : Nat} {n : Int} (h : t[g]? = some n) : flA t (g + 1) = if n = 0 then flA t g ++ [(g : Int)] else flA t g := by
  have hd : t.getD g 1 = n := by rw [List.getD_eq_getElem?_getD, h]; rfl
  unfold flA
  rw [List.range_succ, List.filter_append, List.map_append, List.filter_cons, hd]
  split
  · rename_i h1; rw [if_pos (of_decide_eq_true h1)]; rfl
  · rename_i h1; rw [if_neg (fun x => h1 (decide_eq_true x))]; simp
theorem flA_len (t : List Int) (g : Nat) : (flA t g).length ≤ g := by
  unfold flA; rw [List.length_map]
  exact Nat.le_trans (List.length_filter_le _ _) (by rw [List.length_range]; exact Nat.le_refl _)
end Num
namespace Go.Proofs
open Go Go.Sv Num
variable {G : Imm}
theorem turnsV_eq (xs : List RawP) : turnsV xs = turnL (pvs2 xs) := by
  unfold turnsV turnL
  rw [List.length_map]
  split
  · rfl
  · refine List.map_congr_left fun i hi => ?_
    have hi := List.mem_range.1 hi
    have hm : (i + xs.length - 1) % xs.length < xs.length := Nat.mod_lt _ (by omega)
    unfold turnV trn
    have h1 : cor (pvs2 xs) (i + xs.length - 1) = pv (ring3 xs i).1 := by
      have := cor_per (pvs2 xs) (i + xs.length - 1)
      rw [List.length_map] at this
      rw [← this, cor_pv hm]; rfl
    rw [h1, cor_pv hi, cor_pv1 hi]; rfl
theorem crossR [Tab G] {p q : RawP} {k : Nat} (hk : 0 < k) (hp : PtOk k p) (hq : PtOk k q) (hs : 400 * k + 21000 ≤ cap) : PSpec Tryz.prog G 54 [aggS (pc p), aggS (pc q)] (aggS (canQ (x2 (pv p) (pv q)))) := by
  have i1 := isQ_lim (b := p.1.1) hp.1 hk
  have i2 := isQ_lim (b := p.2.1) hp.2 hk
  have i3 := isQ_lim (b := q.1.1) hq.1 hk
  have i4 := isQ_lim (b := q.2.1) hq.2 hk
  exact vCross_spec (hx1 := i1) (hy1 := i2) (hx2 := i3) (hy2 := i4) (by omega)
theorem bq_x2 {p q : RawP} {k : Nat} (hk : 0 < k) (hp : PtOk k p) (hq : PtOk k q) : Bq (x2 (pv p) (pv q)) (4 * k + 1) := bq_le (bq_cross (bp_raw hk hp) (bp_raw hk hq)) (by omega)
def areaF (xs : List RawP) (g : Nat) : Rat := (perL g fun i => x2 (pv (ra xs i)) (pv (rb xs i))).sum
theorem areaF_succ (xs : List RawP) (g : Nat) : areaF xs (g + 1) = areaF xs g + x2 (pv (ra xs g)) (pv (rb xs g)) := by unfold areaF; rw [perL_succ, sum_one]
theorem areaF_all (xs : List RawP) : areaF xs xs.length = areaL (pvs2 xs) := by
  unfold areaF areaL
  rw [List.length_map]
  congr 1
  exact perL_congr fun i hi => by rw [cor_pv hi, cor_pv1 hi]
theorem bq_areaF {xs : List RawP} {k : Nat} (hk : 0 < k) (hl : ∀ p ∈ xs, PtOk k p) : ∀ g, g ≤ xs.length → Bq (areaF xs g) (g * (4 * k + 2) + 1)
  | 0, _ => bq_le bq_zero (by omega)
  | g + 1, hg => by
    have h1 := bq_areaF hk hl g (by omega)
    have h2 := bq_x2 hk (hl _ (getD_mem (show g < xs.length by omega))) (hl _ (getD_mem (i := (g + 1) % xs.length) (Nat.mod_lt _ (by omega))))
    rw [areaF_succ]
    exact bq_le (bq_add (hp := h1) (hq := h2)) (by rw [Nat.add_mul]; omega)
theorem bq_area {xs : List RawP} {k : Nat} (hk : 0 < k) (hl : ∀ p ∈ xs, PtOk k p) : Bq (areaL (pvs2 xs)) (xs.length * (4 * k + 2) + 1) := by rw [← areaF_all]; exact bq_areaF hk hl _ (Nat.le_refl _)
theorem idxI_spec {ns : List (Int)} {f : FuncId} {caps : List SV} {p : Int → Bool} (hb : ns.length ≤ 2000000000) (h : ∀ n ∈ ns, PSpec Tryz.prog G f ([intS .i64 n] ++ caps) (boolS (p n))) : PSpec Tryz.prog G 103 [slS 1 i64C ns, fnS f caps] (intS .i64 (idxF p ns)) := by
  refine fn_spec Tryz.func103 rfl rfl rfl ?_
  refine T_regionS ?_
  refine Run.one (ok_assign rfl rfl) rfl rfl rfl ?_
  refine Run.nil ?_
  refine T_seq ?_
  refine T_regionS ?_
  refine Run.one (ok_move rfl rfl) rfl rfl rfl ?_
  refine Run.one (ok_len rfl rfl) rfl rfl rfl ?_
  refine Run.one (ok_move rfl rfl) rfl rfl rfl ?_
  refine Run.nil ?_
  refine T_block ?_
  refine T_loop (γ := Nat) (fun g => ⟨_, [(8, intS .i64 (g : Nat)), (7, intS .i64 ns.length), (1, fnS f caps), (0, slS 1 i64C ns)], [], [], (0, false)⟩) (fun g => g ≤ ns.length ∧ (ns.take g).any p = false) (fun g => ns.length - g) 0 ⟨Nat.zero_le _, rfl⟩ (ent_g (subG_cons rfl (subG_cons rfl (subG_cons rfl (subG_cons rfl (trivial)))))) ?_
  rintro g ⟨hg, hn⟩
  refine T_regionS ?_
  refine Run.one (ok_cmp rfl rfl rfl rfl) rfl rfl rfl ?_
  refine Run.nil ?_
  refine T_seq ?_
  refine T_cond rfl rfl (fun h9 => ?_) (fun h9 => ?_)
  · have k9 := of_decide_eq_true h9
    obtain ⟨x, hx⟩ : ∃ x, ns[g]? = some x := ⟨_, List.getElem?_eq_getElem (by omega)⟩
    refine T_skip ?_
    refine T_seq ?_
    refine T_block ?_
    refine T_regionS ?_
    refine Run.one (ok_move rfl rfl) rfl rfl rfl ?_
    refine Run.one (ok_assign rfl rfl) rfl rfl rfl ?_
    refine Run.nil ?_
    refine T_regionS ?_
    iterate 3 refine Run.one (ok_move rfl rfl) rfl rfl rfl ?_
    refine Run.one (ok_indexAddr rfl rfl rfl (by omega) (y := x) (hx)) rfl rfl rfl ?_
    refine Run.one (ok_load rfl rfl) rfl rfl rfl ?_
    refine Run.one ((ok_callV rfl rfl rfl (h x (List.mem_of_getElem? hx)))) rfl rfl rfl ?_
    refine Run.nil ?_
    refine T_cond rfl rfl (fun h16 => ?_) (fun h16 => ?_)
    · refine T_regionS ?_
      refine Run.one (ok_move rfl rfl) rfl rfl rfl ?_
      refine Run.one (ok_assign rfl rfl) rfl rfl rfl ?_
      refine Run.nil ?_
      refine T_ret ?_
      exact ⟨_, [], .one (.tmp rfl), List.nil_sublist _, by rw [idx_hit hx h16 hn], rfl⟩
    · refine T_skip ?_
      refine T_region ?_
      refine Run.one (ok_ari (z := ((g + 1 : Nat) : Int)) rfl rfl rfl (congrArg some (by omega)) (wrap_i64 (by omega) (by omega))) rfl rfl rfl ?_
      refine Run.one (ok_move rfl rfl) rfl rfl rfl ?_
      refine Run.nil ?_
      exact ⟨g + 1, ⟨by omega, any_succ hx h16 hn⟩, by omega, ent_g (subG_cons rfl (subG_cons rfl (subG_cons rfl (subG_cons rfl (trivial)))))⟩
  · have k9 := of_decide_eq_false h9
    refine T_exit ?_
    refine T_regionS ?_
    refine Run.one (ok_assign rfl rfl) rfl rfl rfl ?_
    refine Run.nil ?_
    refine T_ret ?_
    exact ⟨_, [], .one (.tmp rfl), List.nil_sublist _, by rw [idx_none (l := ns) (by rw [← show ns.take g = ns by rw [show g = ns.length by omega, List.take_length]]; exact hn)], rfl⟩
theorem hasI_spec {ns : List (Int)} {f : FuncId} {caps : List SV} {p : Int → Bool} (hb : ns.length ≤ 2000000000) (h : ∀ n ∈ ns, PSpec Tryz.prog G f ([intS .i64 n] ++ caps) (boolS (p n))) : PSpec Tryz.prog G 56 [slS 1 i64C ns, fnS f caps] (boolS (ns.any p)) := by
  refine fn_spec Tryz.func56 rfl rfl rfl ?_
  refine T_regionS ?_
  refine Run.one (ok_assign rfl rfl) rfl rfl rfl ?_
  refine Run.nil ?_
  refine T_regionS ?_
  iterate 2 refine Run.one (ok_move rfl rfl) rfl rfl rfl ?_
  refine Run.one (ok_call rfl rfl (idxI_spec hb h)) rfl rfl rfl ?_
  refine Run.one (ok_cmp rfl rfl rfl rfl) rfl rfl rfl ?_
  refine Run.one (ok_assign rfl rfl) rfl rfl rfl ?_
  refine Run.nil ?_
  refine T_ret ?_
  exact ⟨_, [], .one (.tmp rfl), List.nil_sublist _, congrArg boolS (idx_ge p ns), rfl⟩
theorem convex1_spec {n : Int} : PSpec Tryz.prog G 58 [intS .i64 n] (boolS (n != 1)) := by
  refine fn_spec Tryz.func58 rfl rfl rfl ?_
  refine T_regionS ?_
  refine Run.one (ok_assign rfl rfl) rfl rfl rfl ?_
  refine Run.nil ?_
  refine T_regionS ?_
  refine Run.one (ok_move rfl rfl) rfl rfl rfl ?_
  refine Run.one (ok_cmp rfl rfl rfl rfl) rfl rfl rfl ?_
  refine Run.one (ok_assign rfl rfl) rfl rfl rfl ?_
  refine Run.nil ?_
  refine T_ret ?_
  exact ⟨_, [], .one (.tmp rfl), List.nil_sublist _, rfl, rfl⟩
theorem cvx_ok {xs : List RawP} (hxl : xs.length ≤ cap) : PSpec Tryz.prog G 56 [slS 1 i64C (turnsV xs), eqS (.func (.func 58) #[] #[])] (boolS ((turnsV xs).any fun n => n != 1)) :=
  (hasI_spec (caps := []) (by unfold turnsV; split; exact Nat.zero_le _; rw [List.length_map, List.length_range]; unfold cap at hxl; omega) fun n _ => convex1_spec).args ⟨fun _ _ h => h, fn_eq, trivial⟩
theorem convex_spec [Tab G] {xs : List RawP} {k : Nat} (hk : 0 < k) (hl : ∀ p ∈ xs, PtOk k p) (hs : 100000 * k + 100000 ≤ cap) (hxl : xs.length ≤ cap) : PSpec Tryz.prog G 16 [slS 6 pc xs] (boolS (cvxB (pvs2 xs))) := by
  have hal : ((turnsV xs).all fun n => decide (n = 1)) = !((turnsV xs).any fun n => n != 1) := by
    rw [List.not_any_eq_all_not]; congr 1; funext n; by_cases h : n = 1 <;> simp [h]
  refine fn_spec Tryz.func16 rfl rfl rfl ?_
  refine T_regionS ?_
  refine Run.one (ok_assign rfl rfl) rfl rfl rfl ?_
  refine Run.nil ?_
  refine T_regionS ?_
  refine Run.one (ok_move rfl rfl) rfl rfl rfl ?_
  refine Run.one (ok_call rfl rfl (sTurns_spec hk hl (by omega) hxl)) rfl rfl rfl ?_
  refine Run.one (ok_call rfl rfl (cvx_ok hxl)) rfl rfl rfl ?_
  refine Run.oneB (ok_not rfl rfl) rfl rfl rfl (fun h1_3 => ?_) (fun h1_3 => ?_)
  · refine Run.one (ok_move rfl rfl) rfl rfl rfl ?_
    refine Run.one (ok_move rfl rfl) (gB rfl rfl rfl rfl) rfl rfl ?_
    refine Run.one (ok_call rfl rfl (simple_spec hk hl hs)) (gB rfl rfl rfl rfl) rfl rfl ?_
    refine Run.one (ok_pick rfl rfl rfl) rfl rfl rfl ?_
    refine Run.one (ok_assign rfl rfl) rfl rfl rfl ?_
    refine Run.nil ?_
    refine T_ret ?_
    exact ⟨_, [], .one (.tmp rfl), List.nil_sublist _, by unfold cvxB; rw [← turnsV_eq, hal, h1_3]; rfl, rfl⟩
  · refine Run.one (ok_move rfl rfl) rfl rfl rfl ?_
    iterate 2 refine Run.no (gB rfl rfl rfl rfl) rfl rfl ?_
    refine Run.one (ok_pick rfl rfl rfl) rfl rfl rfl ?_
    refine Run.one (ok_assign rfl rfl) rfl rfl rfl ?_
    refine Run.nil ?_
    refine T_ret ?_
    exact ⟨_, [], .one (.tmp rfl), List.nil_sublist _, by unfold cvxB; rw [← turnsV_eq, hal, h1_3]; rfl, rfl⟩
theorem area_spec [Tab G] {xs : List RawP} {k : Nat} (hk : 0 < k) (hl : ∀ p ∈ xs, PtOk k p) (hs : 100 * (xs.length * (4 * k + 2) + 4 * k + 2) + 30000 ≤ cap) : PSpec Tryz.prog G 14 [slS 6 pc xs] (aggS (canQ (areaL (pvs2 xs)))) := by
  have hs2 := hs
  unfold cap at hs2
  refine fn_spec Tryz.func14 rfl rfl rfl ?_
  refine T_regionS ?_
  refine Run.alloc rfl rfl rfl rfl rfl fun b2 => ?_
  refine Run.nil ?_
  refine T_regionS ?_
  refine Run.one (ok_call rfl rfl (qOf_spec (n := 0) (q := areaF xs 0) (by decide) (by decide) rfl)) rfl rfl rfl ?_
  refine Run.alloc rfl rfl rfl rfl rfl fun b3 => ?_
  refine Run.store 0 rfl rfl rfl rfl rfl rfl rfl rfl rfl ?_
  refine Run.nil ?_
  refine T_seq ?_
  refine T_regionS ?_
  refine Run.one (ok_move rfl rfl) rfl rfl rfl ?_
  refine Run.one (ok_len rfl rfl) rfl rfl rfl ?_
  refine Run.one (ok_move rfl rfl) rfl rfl rfl ?_
  refine Run.nil ?_
  refine T_block ?_
  refine T_len 7 rfl fun la => ?_
  unfold big at la
  refine T_loop (γ := Nat) (fun g => ⟨29, [(9, intS .i64 (g : Nat)), (8, intS .i64 xs.length), (7, slS 6 pc xs), (3, eqS (.pointer (some ⟨b3, 0, none⟩))), (2, eqS (.pointer (some ⟨b2, 0, none⟩))), (0, slS 6 pc xs)], [⟨some b3, 28, canQ (areaF xs g), 0⟩, ⟨some b2, 28, [eqS (.bool false), eqS (.slice none 0 0), eqS (.slice none 0 0)], 0⟩], [], (0, false)⟩) (fun g => g ≤ xs.length) (fun g => xs.length - g) 0 (Nat.zero_le _) (ent_h (subG_cons rfl (subG_cons rfl (subG_cons rfl (subG_cons rfl (subG_cons rfl (subG_cons rfl (trivial))))))) rfl) ?_
  intro g hg
  refine T_regionS ?_
  refine Run.one (ok_cmp rfl rfl rfl rfl) rfl rfl rfl ?_
  refine Run.nil ?_
  refine T_seq ?_
  refine T_cond rfl rfl (fun h10 => ?_) (fun h10 => ?_)
  · have k10 := of_decide_eq_true h10
    have hg1 : g < xs.length := by omega
    have hm : (g + 1) % xs.length < xs.length := Nat.mod_lt _ (by omega)
    have o1 := hl _ (getD_mem hg1)
    have o2 := hl _ (getD_mem hm)
    have b1 := bq_areaF hk hl g hg
    have b6 := bq_x2 hk o1 o2
    have hmu : g * (4 * k + 2) ≤ xs.length * (4 * k + 2) := Nat.mul_le_mul_right _ hg
    refine T_skip ?_
    refine T_seq ?_
    refine T_block ?_
    refine T_regionS ?_
    refine Run.one (ok_move rfl rfl) rfl rfl rfl ?_
    refine Run.one (ok_indexAddr rfl rfl rfl (by omega) (y := ra xs g) (get_getD hg1)) rfl rfl rfl ?_
    refine Run.one ((show OpOK _ _ _ _ _ (aggS (pc (ra xs g))) from ok_load_agg rfl rfl rfl rfl)) rfl rfl rfl ?_
    refine Run.alloc rfl rfl rfl rfl rfl fun b5 => ?_
    refine Run.one (ok_assign rfl rfl) rfl rfl rfl ?_
    refine Run.store 0 rfl rfl rfl rfl rfl rfl rfl rfl rfl ?_
    refine Run.nil ?_
    refine T_draw 13 (by kernel_rfl) ?_
    refine Run.one ((show OpOK _ _ _ _ _ (aggS (canQ (areaF xs g))) from ok_load_own_agg 1 rfl rfl rfl (by kernel_rfl) rfl)) rfl rfl rfl ?_
    refine Run.one ((show OpOK _ _ _ _ _ (aggS (pc (ra xs g))) from ok_load_own_agg 0 rfl rfl rfl (by kernel_rfl) rfl)) rfl rfl rfl ?_
    iterate 2 refine Run.one (ok_move rfl rfl) rfl rfl rfl ?_
    refine Run.one (ok_ari (z := ((g + 1 : Nat) : Int)) rfl rfl rfl (congrArg some (by omega)) (wrap_i64 (by omega) (by omega))) rfl rfl rfl ?_
    refine Run.one (ok_move rfl rfl) rfl rfl rfl ?_
    refine Run.one (ok_len rfl rfl) rfl rfl rfl ?_
    refine Run.one ((ok_rem rfl rfl rfl (by omega) (by omega)).sub (int_eq (n := (((g + 1) % xs.length : Nat) : Int)) (by simp))) rfl rfl rfl ?_
    refine Run.one (ok_indexAddr rfl rfl rfl (by omega) (y := rb xs g) (get_getD hm)) rfl rfl rfl ?_
    refine Run.one ((show OpOK _ _ _ _ _ (aggS (pc (rb xs g))) from ok_load_agg rfl rfl rfl rfl)) rfl rfl rfl ?_
    refine Run.one (ok_call rfl rfl (crossR (p := ra xs g) (q := rb xs g) hk o1 o2 (by omega))) rfl rfl rfl ?_
    refine Run.one (ok_buildSlice rfl rfl (by decide) rfl (by simp) (by kernel_rfl) (by kernel_rfl)) rfl rfl rfl ?_
    refine Run.one (ok_call rfl rfl (show PSpec _ _ _ _ (aggS (canQ (areaF xs (g + 1)))) from by rw [areaF_succ]; exact qadd2_spec (by omega))) rfl rfl rfl ?_
    refine Run.nil ?_
    refine Run.store 1 rfl rfl rfl rfl rfl rfl rfl rfl rfl ?_
    refine Run.ghost _ rfl (ghost_drop (List.sublist_cons_self _ _)) ?_
    refine Run.nil ?_
    refine T_region ?_
    refine Run.one (ok_ari (z := ((g + 1 : Nat) : Int)) rfl rfl rfl (congrArg some (by omega)) (wrap_i64 (by omega) (by omega))) rfl rfl rfl ?_
    refine Run.one (ok_move rfl rfl) rfl rfl rfl ?_
    refine Run.nil ?_
    exact ⟨g + 1, (by omega : g + 1 ≤ xs.length), by omega, ent_h (subG_cons rfl (subG_cons rfl (subG_cons rfl (subG_cons rfl (subG_cons rfl (subG_cons rfl (trivial))))))) rfl⟩
  · have k10 := of_decide_eq_false h10
    refine T_exit ?_
    refine T_regionS ?_
    refine Run.one (ok_load_own_agg 0 rfl rfl rfl rfl rfl) rfl rfl rfl ?_
    refine Run.store 1 rfl rfl rfl rfl rfl rfl rfl rfl rfl ?_
    refine Run.nil ?_
    refine T_ret ?_
    exact ⟨_, [], .one (.agg 1 inferInstance rfl rfl rfl rfl), List.nil_sublist _, by rw [← areaF_all, show xs.length = g by omega]; rfl, rfl⟩
theorem way_spec [Tab G] {xs : List RawP} {k : Nat} (hk : 0 < k) (hl : ∀ p ∈ xs, PtOk k p) (hs : 100 * (xs.length * (4 * k + 2) + 4 * k + 2) + 30000 ≤ cap) : PSpec Tryz.prog G 19 [slS 6 pc xs] (intS .i64 (tri (areaL (pvs2 xs)) 0)) := by
  have b1 := bq_area hk hl
  refine fn_spec Tryz.func19 rfl rfl rfl ?_
  refine T_regionS ?_
  refine Run.one (ok_assign rfl rfl) rfl rfl rfl ?_
  refine Run.nil ?_
  refine T_regionS ?_
  refine Run.one (ok_move rfl rfl) rfl rfl rfl ?_
  refine Run.one (ok_call rfl rfl (area_spec hk hl hs)) rfl rfl rfl ?_
  refine Run.one (ok_call rfl rfl (qSign_spec (by omega))) rfl rfl rfl ?_
  refine Run.one (ok_assign rfl rfl) rfl rfl rfl ?_
  refine Run.nil ?_
  refine T_ret ?_
  exact ⟨_, [], .one (.tmp rfl), List.nil_sublist _, rfl, rfl⟩
theorem flat_spec [Tab G] {xs : List RawP} {k : Nat} (hk : 0 < k) (hl : ∀ p ∈ xs, PtOk k p) (hs : 800 * k + 30000 ≤ cap) (hxl : xs.length ≤ cap) : PSpec Tryz.prog G 20 [slS 6 pc xs] (slS 1 i64C (flatI (turnsV xs))) := by
  have htl : (turnsV xs).length ≤ xs.length := by unfold turnsV; split; exact Nat.zero_le _; rw [List.length_map, List.length_range]; exact Nat.le_refl _
  have hxl0 := hxl
  unfold cap at hxl0
  refine fn_spec Tryz.func20 rfl rfl rfl ?_
  refine T_regionS ?_
  refine Run.one (ok_assign rfl rfl) rfl rfl rfl ?_
  refine Run.nil ?_
  refine T_seq ?_
  refine T_regionS ?_
  refine Run.one (ok_move rfl rfl) rfl rfl rfl ?_
  refine Run.one (ok_call rfl rfl (sTurns_spec hk hl hs hxl)) rfl rfl rfl ?_
  refine Run.one (ok_len rfl rfl) rfl rfl rfl ?_
  refine Run.one (ok_move rfl rfl) rfl rfl rfl ?_
  refine Run.nil ?_
  refine T_block ?_
  refine T_ghost (ghost_row 3 1) ?_
  refine T_loop2 (fun (g : Nat) (q : Option (Nat × Nat)) => ⟨21, [(8, intS .i64 (g : Nat)), (7, intS .i64 (turnsV xs).length), (6, slS 1 i64C (turnsV xs)), (2, eqS (rowV q (flA (turnsV xs) g).length))], [rowE q 3 1 (flA (turnsV xs) g).length ((flA (turnsV xs) g).flatMap i64C)], [], (0, false)⟩) (fun g q => g ≤ (turnsV xs).length ∧ rowOk q (flA (turnsV xs) g).length) (fun g _ => (turnsV xs).length - g) 0 none ⟨Nat.zero_le _, rfl⟩ (ent_h (subG_cons rfl (subG_cons rfl (subG_cons rfl (subG_cons rfl (trivial))))) rfl) ?_
  rintro g q ⟨hg, hq⟩
  have hfl := flA_len (turnsV xs) g
  refine T_regionS ?_
  refine Run.one (ok_cmp rfl rfl rfl rfl) rfl rfl rfl ?_
  refine Run.nil ?_
  refine T_seq ?_
  refine T_cond rfl rfl (fun h9 => ?_) (fun h9 => ?_)
  · have k9 := of_decide_eq_true h9
    obtain ⟨n, hn⟩ : ∃ n, (turnsV xs)[g]? = some n := ⟨_, List.getElem?_eq_getElem (by omega)⟩
    have hfs := flA_succ hn
    refine T_skip ?_
    refine T_seq ?_
    refine T_block ?_
    refine T_regionS ?_
    refine Run.one (ok_move rfl rfl) rfl rfl rfl ?_
    refine Run.one (ok_indexAddr rfl rfl rfl (by omega) (y := n) (hn)) rfl rfl rfl ?_
    refine Run.one (ok_load rfl rfl) rfl rfl rfl ?_
    iterate 2 refine Run.one (ok_assign rfl rfl) rfl rfl rfl ?_
    refine Run.nil ?_
    refine T_regionS ?_
    refine Run.one (ok_move rfl rfl) rfl rfl rfl ?_
    refine Run.one (ok_cmp rfl rfl rfl rfl) rfl rfl rfl ?_
    refine Run.nil ?_
    refine T_cond rfl rfl (fun h14 => ?_) (fun h14 => ?_)
    · have k14 := beq_iff_eq.1 h14
      rw [if_pos k14] at hfs
      refine T_region ?_
      iterate 2 refine Run.one (ok_move rfl rfl) rfl rfl rfl ?_
      refine Run.one (ok_buildSlice rfl rfl (by decide) rfl (by simp) rfl rfl) rfl rfl rfl ?_
      refine Run.append 0 rfl rfl rfl rfl rfl rfl rfl rfl hq (by rw [flat_i64, Nat.mul_one]) (fun z hz => by rw [List.mem_singleton.1 hz]; rfl) (by unfold big; simp; omega) (by unfold big; simp; omega) fun q18 hq18 => ?_
      refine Run.one (ok_assign rfl rfl) rfl rfl rfl ?_
      refine Run.nil ?_
      refine T_region ?_
      refine Run.one (ok_ari (z := ((g + 1 : Nat) : Int)) rfl rfl rfl (congrArg some (by omega)) (wrap_i64 (by omega) (by omega))) rfl rfl rfl ?_
      refine Run.one (ok_move rfl rfl) rfl rfl rfl ?_
      refine Run.nil ?_
      exact ⟨g + 1, q18, ⟨by omega, by rw [hfs, List.length_append]; exact hq18⟩, by omega, ent_h (subG_cons rfl (subG_cons rfl (subG_cons rfl (subG_as rfl (by rw [hfs, List.length_append]; rfl) trivial)))) (by rw [hfs, List.length_append, List.flatMap_append]; rfl)⟩
    · have k14 := beq_eq_false_iff_ne.1 h14
      rw [if_neg k14] at hfs
      refine T_skip ?_
      refine T_region ?_
      refine Run.one (ok_ari (z := ((g + 1 : Nat) : Int)) rfl rfl rfl (congrArg some (by omega)) (wrap_i64 (by omega) (by omega))) rfl rfl rfl ?_
      refine Run.one (ok_move rfl rfl) rfl rfl rfl ?_
      refine Run.nil ?_
      exact ⟨g + 1, q, ⟨by omega, by rw [hfs]; exact hq⟩, by omega, ent_h (subG_cons rfl (subG_cons rfl (subG_cons rfl (subG_as rfl (by rw [hfs]) trivial)))) (by rw [hfs])⟩
  · have k9 := of_decide_eq_false h9
    obtain rfl : g = (turnsV xs).length := by omega
    refine T_exit ?_
    refine T_ghost (ghost_sl 0 2 rfl rfl hq (l := flatI (turnsV xs)) (f := i64C) rfl rfl (fun _ _ => rfl) (by have h0 : (flatI (turnsV xs)).length ≤ (turnsV xs).length := hfl; unfold big; omega)) ?_
    refine T_regionS ?_
    refine Run.one (ok_move rfl rfl) rfl rfl rfl ?_
    refine Run.one (ok_assign rfl rfl) rfl rfl rfl ?_
    refine Run.nil ?_
    refine T_ret ?_
    exact ⟨_, [], .one (.tmp rfl), List.nil_sublist _, rfl, rfl⟩
end Go.Proofs
