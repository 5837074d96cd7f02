/- The law SideAlong, on the facts. -/
import Derived.Test.YtendklcoeengaaaGreatDoorSn8
namespace Go.Proofs
open Go Go.Sv Num
variable {G : Imm}
abbrev atP (a b : Rat × Rat) (t : Rat) : Rat × Rat := (a.1 + (b.1 - a.1) * t, a.2 + (b.2 - a.2) * t)
/-- the row of points that the law makes -/
def rowL (A B : RawP) (a b : Rat × Rat) (ls : List (Bool × List Nat × List Nat)) (i : Nat) : List RawP := A :: B :: (ls.take i).map fun t => rep (atP a b (qv t))
abbrev cellsP (xs : List RawP) : List SV := xs.flatMap pc
theorem flat_pc : ∀ xs : List RawP, (cellsP xs).length = xs.length * 6
  | [] => rfl
  | x :: l => by
    have := flat_pc l
    show (pc x ++ cellsP l).length = (l.length + 1) * 6
    rw [List.length_append, this]
    show 6 + l.length * 6 = _
    omega
theorem cellsP_append (xs ys : List RawP) : cellsP (xs ++ ys) = cellsP xs ++ cellsP ys := List.flatMap_append
theorem rowL_length {A B : RawP} {a b : Rat × Rat} {ls : List (Bool × List Nat × List Nat)} {i : Nat} (h : i ≤ ls.length) : (rowL A B a b ls i).length = 2 + i := by
  simp [rowL]; omega
theorem rowL_succ {A B : RawP} {a b : Rat × Rat} {ls : List (Bool × List Nat × List Nat)} {i : Nat} (h : i < ls.length) : rowL A B a b ls (i + 1) = rowL A B a b ls i ++ [rep (atP a b (qv (ls.getD i default)))] := by
  unfold rowL
  rw [List.take_add_one, List.map_append, List.getElem?_eq_getElem h]
  simp [h]
theorem onL_row {A B : RawP} {a b : Rat × Rat} {ls : List (Bool × List Nat × List Nat)} {i : Nat} (hA : pv A = a) (hB : pv B = b) : ∀ p ∈ (rowL A B a b ls i).map pv, onL a b p := by
  intro p hp
  simp only [rowL, List.map_cons, List.mem_cons, List.map_map] at hp
  rcases hp with rfl | rfl | hp
  · rw [hA]; exact onL_a a b
  · rw [hB]; exact onL_b a b
  · obtain ⟨t, _, rfl⟩ := List.mem_map.1 hp
    exact ⟨qv t, by rw [Function.comp, pv_rep], by rw [Function.comp, pv_rep]⟩
theorem along_rowL {A B : RawP} {a b : Rat × Rat} {ls : List (Bool × List Nat × List Nat)} {i : Nat} (hA : pv A = a) (hB : pv B = b) : alongB ((rowL A B a b ls i).map pv) = true := by
  have h := onL_row (ls := ls) (i := i) hA hB
  rw [show (rowL A B a b ls i).map pv = pv A :: pv B :: ((ls.take i).map fun t => rep (atP a b (qv t))).map pv from rfl, hA] at h ⊢
  exact along_line h
theorem along_rowP {A B P : RawP} {a b p : Rat × Rat} {ls : List (Bool × List Nat × List Nat)} {i : Nat} (hA : pv A = a) (hB : pv B = b) (hP : pv P = p) : alongB ((rowL A B a b ls i ++ [P]).map pv) = decide (crs a.1 a.2 b.1 b.2 p.1 p.2 = 0) := by
  have h := onL_row (ls := ls) (i := i) hA hB
  rw [show (rowL A B a b ls i).map pv = pv A :: pv B :: ((ls.take i).map fun t => rep (atP a b (qv t))).map pv from rfl, hA, hB] at h
  rw [List.map_append, show (rowL A B a b ls i).map pv = pv A :: pv B :: ((ls.take i).map fun t => rep (atP a b (qv t))).map pv from rfl, hA, hB, show [P].map pv = [p] by rw [List.map_cons, hP]; rfl]
  exact along_more h
theorem ptOk_le {p : RawP} {k j : Nat} (h : PtOk k p) (hk : k ≤ j) : PtOk j p :=
  ⟨⟨h.1.1, h.1.2.1, Nat.le_trans h.1.2.2.1 hk, Nat.le_trans h.1.2.2.2 hk⟩, h.2.1, h.2.2.1, Nat.le_trans h.2.2.2.1 hk, Nat.le_trans h.2.2.2.2 hk⟩
theorem lent_row {I : Imm} {b n c m : Nat} {R : List RawP} (hc : cellsAt I b 0 (cellsP R)) (hq : rowOk (some (b, c)) n) (hl : R.length = n) (hb : n ≤ big) (hm : m ≤ n) {vs : List Value} (hd : dens I [eqS (.slice (some ⟨b, 0, none⟩) m c)] vs) : dens I [slS 6 pc (R.take m)] vs := by
  obtain ⟨x, r, rfl, hx, hr⟩ := dens_cons_inv hd
  refine dens_cons ?_ hr
  rw [show x = _ from hx]
  exact row_lent hc hq hl (fun _ _ => rfl) hb hm
theorem rowOk_some {q : Option (Nat × Nat)} {n : Nat} (h : rowOk q n) (hn : 0 < n) : ∃ b c, q = some (b, c) := by
  cases q with
  | none => exact absurd (show n = 0 from h) (by omega)
  | some z => exact ⟨z.1, z.2, rfl⟩
theorem gs_mem {α : Type} {sz : α → Nat} {xs : List α} {x : α} (h : x ∈ xs) : min (sz x) 1000 ≤ gs sz xs xs.length := by
  unfold gs
  rw [List.take_length]
  have hm : min (sz x) 1000 ∈ xs.map fun p => min (sz p) 1000 := List.mem_map.2 ⟨x, h, rfl⟩
  generalize xs.map (fun p => min (sz p) 1000) = l at hm
  induction l with
  | nil => cases hm
  | cons y l ih =>
    rw [List.sum_cons]
    rcases List.mem_cons.1 hm with e | e
    · omega
    · have := ih e; omega
theorem getDq_mem {ls : List (Bool × List Nat × List Nat)} {i : Nat} (h : i < ls.length) : ls.getD i default ∈ ls := by simp [h]
theorem getDq {ls : List (Bool × List Nat × List Nat)} {i : Nat} (h : i < ls.length) : ls[i]? = some (ls.getD i default) := by simp [h]
set_option maxHeartbeats 2000000 in
theorem sideAlong_spec [Tab G] {b1 c1 : Bool} {l1 d1 m1 e1 : List Nat} (hl1 : Lim l1 ∧ Lim d1) (hm1 : Lim m1 ∧ Lim e1) {b2 c2 : Bool} {l2 d2 m2 e2 : List Nat} (hl2 : Lim l2 ∧ Lim d2) (hm2 : Lim m2 ∧ Lim e2) {b3 c3 : Bool} {l3 d3 m3 e3 : List Nat} (hl3 : Lim l3 ∧ Lim d3) (hm3 : Lim m3 ∧ Lim e3) {ls : List (Bool × List Nat × List Nat)} (hls : ∀ x ∈ ls, Lim x.2.1 ∧ Lim x.2.2) : PSpec Tryz.prog G 3 [aggS [boolS b1, natS l1, natS d1, boolS c1, natS m1, natS e1], aggS [boolS b2, natS l2, natS d2, boolS c2, natS m2, natS e2], aggS [boolS b3, natS l3, natS d3, boolS c3, natS m3, natS e3], slS 3 qc ls] (boolS true) := by
  refine fn_spec Tryz.func3 rfl rfl rfl ?_
  refine T_regionS ?_
  refine Run.one (ok_box rfl rfl) rfl rfl rfl ?_
  refine Run.one (ok_box rfl rfl) rfl rfl rfl ?_
  refine Run.one (ok_box rfl rfl) rfl rfl rfl ?_
  refine Run.one (ok_assign rfl rfl) rfl rfl rfl ?_
  refine Run.nil ?_
  refine T_seq ?_
  refine T_regionS ?_
  refine Run.one (ok_load_agg rfl rfl rfl rfl) rfl rfl rfl ?_
  refine Run.one (ok_load_agg rfl rfl rfl rfl) rfl rfl rfl ?_
  refine Run.one (ok_load_agg rfl rfl rfl rfl) rfl rfl rfl ?_
  refine Run.one (ok_buildSlice rfl rfl (by decide) rfl (by simp) (by kernel_rfl) (by kernel_rfl)) rfl rfl rfl ?_
  refine Run.oneB (ok_call rfl rfl ((great9_spec (xs := [((b1, l1, d1), (c1, m1, e1)), ((b2, l2, d2), (c2, m2, e2)), ((b3, l3, d3), (c3, m3, e3))])).args ⟨fun _ _ h => sl_pair (f := pc) [((b1, l1, d1), (c1, m1, e1)), ((b2, l2, d2), (c2, m2, e2)), ((b3, l3, d3), (c3, m3, e3))] h, trivial⟩)) rfl rfl rfl (fun h1_4 => ?_) (fun h1_4 => ?_)
  · refine Run.one (ok_move rfl rfl) rfl rfl rfl ?_
    refine Run.no ⟨_, _, rfl, rfl, rfl⟩ rfl rfl ?_
    refine Run.no ⟨_, _, rfl, rfl, rfl⟩ rfl rfl ?_
    refine Run.no ⟨_, _, rfl, rfl, rfl⟩ rfl rfl ?_
    refine Run.one (ok_pick rfl rfl rfl) rfl rfl rfl ?_
    refine Run.one (ok_move rfl rfl) rfl rfl rfl ?_
    refine Run.no ⟨_, _, rfl, rfl, rfl⟩ rfl rfl ?_
    refine Run.no ⟨_, _, rfl, rfl, rfl⟩ rfl rfl ?_
    refine Run.one (ok_pick rfl rfl rfl) rfl rfl rfl ?_
    refine Run.nil ?_
    refine T_condT rfl rfl ?_
    refine T_regionS ?_
    refine Run.one (ok_call rfl rfl wakes9_spec) rfl rfl rfl ?_
    refine Run.one (ok_assign rfl rfl) rfl rfl rfl ?_
    refine Run.nil ?_
    refine T_ret ?_
    exact ⟨_, [], .one (.tmp rfl), List.nil_sublist _, rfl, rfl⟩
  · refine Run.one (ok_move rfl rfl) rfl rfl rfl ?_
    refine Run.one (ok_move rfl rfl) ⟨_, _, rfl, rfl, rfl⟩ rfl rfl ?_
    refine Run.one (ok_len rfl rfl) ⟨_, _, rfl, rfl, rfl⟩ rfl rfl ?_
    refine Run.one (ok_cmp rfl rfl rfl rfl) ⟨_, _, rfl, rfl, rfl⟩ rfl rfl ?_
    refine Run.oneB (ok_pick rfl rfl rfl) rfl rfl rfl (fun h1_9 => ?_) (fun h1_9 => ?_)
    · have k1_9 := of_decide_eq_true h1_9
      refine Run.one (ok_move rfl rfl) rfl rfl rfl ?_
      refine Run.no ⟨_, _, rfl, rfl, rfl⟩ rfl rfl ?_
      refine Run.no ⟨_, _, rfl, rfl, rfl⟩ rfl rfl ?_
      refine Run.one (ok_pick rfl rfl rfl) rfl rfl rfl ?_
      refine Run.nil ?_
      refine T_condT rfl rfl ?_
      refine T_regionS ?_
      refine Run.one (ok_call rfl rfl wakes9_spec) rfl rfl rfl ?_
      refine Run.one (ok_assign rfl rfl) rfl rfl rfl ?_
      refine Run.nil ?_
      refine T_ret ?_
      exact ⟨_, [], .one (.tmp rfl), List.nil_sublist _, rfl, rfl⟩
    · have k1_9 := of_decide_eq_false h1_9
      refine Run.one (ok_move rfl rfl) rfl rfl rfl ?_
      refine Run.one (ok_move rfl rfl) ⟨_, _, rfl, rfl, rfl⟩ rfl rfl ?_
      refine Run.one (ok_call rfl rfl rqGreat_spec) ⟨_, _, rfl, rfl, rfl⟩ rfl rfl ?_
      refine Run.one (ok_pick rfl rfl rfl) rfl rfl rfl ?_
      refine Run.nil ?_
      refine T_cond rfl rfl (fun h24 => ?_) (fun h24 => ?_)
      · refine T_regionS ?_
        refine Run.one (ok_call rfl rfl wakes9_spec) rfl rfl rfl ?_
        refine Run.one (ok_assign rfl rfl) rfl rfl rfl ?_
        refine Run.nil ?_
        refine T_ret ?_
        exact ⟨_, [], .one (.tmp rfl), List.nil_sublist _, rfl, rfl⟩
      · have hg0 : ¬ (20 < 3 ∨ 80 < gs tsz [((b1, l1, d1), (c1, m1, e1)), ((b2, l2, d2), (c2, m2, e2)), ((b3, l3, d3), (c3, m3, e3))] 3) := of_decide_eq_false h1_4
        simp [gs, tsz] at hg0
        have hg1 : ¬ (60 < ls.length ∨ 40 < gs qtz ls ls.length) := of_decide_eq_false h24
        have hll : ls.length ≤ 10 := by omega
        obtain ⟨x1, hxe1⟩ : ∃ x, x = qv (b1, l1, d1) := ⟨_, rfl⟩
        obtain ⟨y1, hye1⟩ : ∃ y, y = qv (c1, m1, e1) := ⟨_, rfl⟩
        obtain ⟨k1, hk1⟩ : ∃ k, k = l1.length + d1.length + 1 := ⟨_, rfl⟩
        obtain ⟨j1, hj1⟩ : ∃ k, k = m1.length + e1.length + 1 := ⟨_, rfl⟩
        have hx1 : IsQ b1 l1 d1 x1 k1 := hxe1 ▸ isQ_lim ⟨hl1.1, hl1.2, by omega, by omega⟩ (by omega)
        have hy1 : IsQ c1 m1 e1 y1 j1 := hye1 ▸ isQ_lim ⟨hm1.1, hm1.2, by omega, by omega⟩ (by omega)
        have hbx1 := hx1.bq
        have hby1 := hy1.bq
        obtain ⟨x2, hxe2⟩ : ∃ x, x = qv (b2, l2, d2) := ⟨_, rfl⟩
        obtain ⟨y2, hye2⟩ : ∃ y, y = qv (c2, m2, e2) := ⟨_, rfl⟩
        obtain ⟨k2, hk2⟩ : ∃ k, k = l2.length + d2.length + 1 := ⟨_, rfl⟩
        obtain ⟨j2, hj2⟩ : ∃ k, k = m2.length + e2.length + 1 := ⟨_, rfl⟩
        have hx2 : IsQ b2 l2 d2 x2 k2 := hxe2 ▸ isQ_lim ⟨hl2.1, hl2.2, by omega, by omega⟩ (by omega)
        have hy2 : IsQ c2 m2 e2 y2 j2 := hye2 ▸ isQ_lim ⟨hm2.1, hm2.2, by omega, by omega⟩ (by omega)
        have hbx2 := hx2.bq
        have hby2 := hy2.bq
        obtain ⟨x3, hxe3⟩ : ∃ x, x = qv (b3, l3, d3) := ⟨_, rfl⟩
        obtain ⟨y3, hye3⟩ : ∃ y, y = qv (c3, m3, e3) := ⟨_, rfl⟩
        obtain ⟨k3, hk3⟩ : ∃ k, k = l3.length + d3.length + 1 := ⟨_, rfl⟩
        obtain ⟨j3, hj3⟩ : ∃ k, k = m3.length + e3.length + 1 := ⟨_, rfl⟩
        have hx3 : IsQ b3 l3 d3 x3 k3 := hxe3 ▸ isQ_lim ⟨hl3.1, hl3.2, by omega, by omega⟩ (by omega)
        have hy3 : IsQ c3 m3 e3 y3 j3 := hye3 ▸ isQ_lim ⟨hm3.1, hm3.2, by omega, by omega⟩ (by omega)
        have hbx3 := hx3.bq
        have hby3 := hy3.bq
        have hA : pv ((b1, l1, d1), (c1, m1, e1)) = (x1, y1) := by rw [hxe1, hye1]; rfl
        have hB : pv ((b2, l2, d2), (c2, m2, e2)) = (x2, y2) := by rw [hxe2, hye2]; rfl
        have hP : pv ((b3, l3, d3), (c3, m3, e3)) = (x3, y3) := by rw [hxe3, hye3]; rfl
        have hoA : PtOk 1000 ((b1, l1, d1), (c1, m1, e1)) := ⟨⟨hl1.1, hl1.2, by simp only; omega, by simp only; omega⟩, hm1.1, hm1.2, by simp only; omega, by simp only; omega⟩
        have hoB : PtOk 1000 ((b2, l2, d2), (c2, m2, e2)) := ⟨⟨hl2.1, hl2.2, by simp only; omega, by simp only; omega⟩, hm2.1, hm2.2, by simp only; omega, by simp only; omega⟩
        have hoP : PtOk 1000 ((b3, l3, d3), (c3, m3, e3)) := ⟨⟨hl3.1, hl3.2, by simp only; omega, by simp only; omega⟩, hm3.1, hm3.2, by simp only; omega, by simp only; omega⟩
        have hqz : ∀ x ∈ ls, IsQ x.1 x.2.1 x.2.2 (qv x) 41 := fun x hx => by
          have h1 := gs_mem (sz := qtz) hx
          have h2 : qtz x = x.2.1.length + x.2.2.length := rfl
          exact isQ_lim ⟨(hls x hx).1, (hls x hx).2, by omega, by omega⟩ (by decide)
        have hoR : ∀ i, ∀ p ∈ rowL ((b1, l1, d1), (c1, m1, e1)) ((b2, l2, d2), (c2, m2, e2)) (x1, y1) (x2, y2) ls i, PtOk 1000 p := fun i p hp => by
          simp only [rowL, List.mem_cons] at hp
          rcases hp with rfl | rfl | hp
          · exact hoA
          · exact hoB
          · obtain ⟨t, ht, rfl⟩ := List.mem_map.1 hp
            have i1 := (hqz t (List.mem_of_mem_take ht)).bq
            have g1 : Bq (x1 + (x2 - x1) * qv t) _ := inferInstance
            have g2 : Bq (y1 + (y2 - y1) * qv t) _ := inferInstance
            exact ptOk_rep (bq_le g1 (by omega)) (bq_le g2 (by omega))
        refine T_skip ?_
        refine T_regionS ?_
        refine Run.one (ok_load_agg rfl rfl rfl rfl) rfl rfl rfl ?_
        refine Run.one (ok_load_agg rfl rfl rfl rfl) rfl rfl rfl ?_
        refine Run.buildRow rfl rfl rfl rfl rfl rfl (by decide) rfl (.inr (by simp)) rfl (by kernel_rfl) fun b28 hb28 => ?_
        refine Run.one (ok_assign rfl rfl) rfl rfl rfl ?_
        refine Run.nil ?_
        refine T_seq ?_
        refine T_regionS ?_
        refine Run.one (ok_assign rfl rfl) rfl rfl rfl ?_
        refine Run.nil ?_
        refine T_block ?_
        refine T_loop2 (fun i q => ⟨_, [(10, intS .i64 (i : Nat)), (9, eqS (rowV q (2 + i))), (3, slS 3 qc ls), (4, ptrS (pc ((b1, l1, d1), (c1, m1, e1)))), (5, ptrS (pc ((b2, l2, d2), (c2, m2, e2)))), (6, ptrS (pc ((b3, l3, d3), (c3, m3, e3))))], [rowE q 29 6 (2 + i) (cellsP (rowL ((b1, l1, d1), (c1, m1, e1)) ((b2, l2, d2), (c2, m2, e2)) (x1, y1) (x2, y2) ls i))], [], (0, false)⟩) (fun i q => i ≤ ls.length ∧ rowOk q (2 + i)) (fun i _ => ls.length - i) 0 (some (b28, 2)) ⟨Nat.zero_le _, hb28⟩ (ent_h (subG_cons rfl (subG_cons rfl (subG_cons rfl (subG_cons rfl (subG_cons rfl (subG_cons rfl (trivial))))))) rfl) ?_
        rintro i q ⟨hi, hq⟩
        have hRl := rowL_length (A := ((b1, l1, d1), (c1, m1, e1))) (B := ((b2, l2, d2), (c2, m2, e2))) (a := (x1, y1)) (b := (x2, y2)) hi
        refine T_seq ?_
        refine T_regionS ?_
        refine Run.one (ok_move rfl rfl) rfl rfl rfl ?_
        refine Run.one (ok_move rfl rfl) rfl rfl rfl ?_
        refine Run.one (ok_len rfl rfl) rfl rfl rfl ?_
        refine Run.one (ok_cmp rfl rfl rfl rfl) rfl rfl rfl ?_
        refine Run.nil ?_
        refine T_cond rfl rfl (fun h32 => ?_) (fun h32 => ?_)
        · have k32 := of_decide_eq_true h32
          refine T_skip ?_
          refine T_seq ?_
          refine T_block ?_
          refine T_draw 9 (by kernel_rfl) ?_
          have hqx := hqz _ (getDq_mem (show i < ls.length by omega))
          have hbq := hqx.bq
          refine Run.one (ok_move rfl rfl) rfl rfl rfl ?_
          refine Run.one (ok_load_agg rfl rfl rfl rfl) rfl rfl rfl ?_
          refine Run.one (ok_load_agg rfl rfl rfl rfl) rfl rfl rfl ?_
          refine Run.one (ok_move rfl rfl) rfl rfl rfl ?_
          refine Run.one (ok_move rfl rfl) rfl rfl rfl ?_
          refine Run.one (ok_indexAddr rfl rfl rfl (by omega) (y := (ls.getD i default)) (getDq (by omega))) rfl rfl rfl ?_
          refine Run.one ((show OpOK _ _ _ _ _ (aggS (qc (ls.getD i default))) from ok_load_agg rfl rfl rfl rfl)) rfl rfl rfl ?_
          refine Run.one (ok_call rfl rfl (rpAt_spec (ht := hqx) (by omega))) rfl rfl rfl ?_
          refine Run.one (ok_buildSlice rfl rfl (by decide) rfl (by simp) (by kernel_rfl) (by kernel_rfl)) rfl rfl rfl ?_
          refine Run.nil ?_
          refine Run.append 0 rfl rfl rfl rfl rfl rfl rfl rfl hq (by rw [flat_pc, hRl]) (fun z hz => by rw [List.mem_singleton.1 hz]; rfl) (by unfold big; simp; omega) (by unfold big; simp; omega) fun q44 hq44 => ?_
          refine Run.one (ok_assign rfl rfl) rfl rfl rfl ?_
          refine Run.nil ?_
          refine T_region ?_
          refine Run.one (ok_move rfl rfl) rfl rfl rfl ?_
          refine Run.one (ok_ari (z := ((i + 1 : Nat) : Int)) rfl rfl rfl (congrArg some (by omega)) (wrap_i64 (by omega) (by omega))) rfl rfl rfl ?_
          refine Run.one (ok_assign rfl rfl) rfl rfl rfl ?_
          refine Run.nil ?_
          exact ⟨i + 1, q44, ⟨by omega, hq44⟩, by omega, rfl, subG_cons rfl (subG_cons rfl (subG_cons rfl (subG_cons rfl (subG_cons rfl (subG_cons rfl (trivial)))))), (show subH [_] [_] by rw [rowL_succ (by omega), cellsP_append]; exact subH_refl _), rfl, rfl⟩
        · have k32 := of_decide_eq_false h32
          obtain rfl : i = ls.length := by omega
          obtain ⟨b, c, rfl⟩ := rowOk_some hq (by omega)
          obtain ⟨R, hR⟩ : ∃ R, R = rowL ((b1, l1, d1), (c1, m1, e1)) ((b2, l2, d2), (c2, m2, e2)) (x1, y1) (x2, y2) ls ls.length := ⟨_, rfl⟩
          have hoR := hoR ls.length
          have hal := along_rowL (ls := ls) (i := ls.length) hA hB
          have hap := along_rowP (ls := ls) (i := ls.length) hA hB hP
          have hR2 : R.take 2 = [((b1, l1, d1), (c1, m1, e1)), ((b2, l2, d2), (c2, m2, e2))] := by rw [hR]; rfl
          rw [← hR] at hRl hoR hal hap ⊢
          refine T_exit ?_
          refine T_seq ?_
          refine T_regionS ?_
          refine Run.one (ok_move rfl rfl) rfl rfl rfl ?_
          refine Run.one ((ok_lent 0 rfl rfl rfl (sAlong_spec (xs := R) (k := 1000) (by decide) hoR (by decide) (by unfold cap; omega)) (fun I vs hc hd => by have := lent_row hc hq hRl (by unfold big; omega) (Nat.le_refl _) hd; rwa [List.take_of_length_le (by omega)] at this)).sub (bool_eq (c := true) hal)) rfl rfl rfl ?_
          refine Run.one (ok_not rfl rfl) rfl rfl rfl ?_
          refine Run.one (ok_move rfl rfl) rfl rfl rfl ?_
          refine Run.one (ok_move rfl rfl) ⟨_, _, rfl, rfl, rfl⟩ rfl rfl ?_
          refine Run.one (ok_sliceHead (hi := 2) rfl rfl hq rfl rfl (by decide) (by omega)) ⟨_, _, rfl, rfl, rfl⟩ rfl rfl ?_
          refine Run.one ((ok_lent 0 rfl rfl rfl (sAlong_spec (xs := R.take 2) (k := 1000) (by decide) (fun p hp => hoR p (List.mem_of_mem_take hp)) (by decide) (by rw [hR2]; show 2 ≤ cap; decide)) (fun I vs hc hd => lent_row hc hq hRl (by unfold big; omega) (by omega) hd)).sub (bool_eq (c := true) (by rw [hR2]; exact along_line (a := pv ((b1, l1, d1), (c1, m1, e1))) (b := pv ((b2, l2, d2), (c2, m2, e2))) (r := [pv ((b2, l2, d2), (c2, m2, e2))]) (fun p hp => by rcases List.mem_cons.1 hp with rfl | hp; exact onL_a _ _; rw [List.mem_singleton.1 hp]; exact onL_b _ _)))) ⟨_, _, rfl, rfl, rfl⟩ rfl rfl ?_
          refine Run.one (ok_not rfl rfl) ⟨_, _, rfl, rfl, rfl⟩ rfl rfl ?_
          refine Run.one (ok_pick rfl rfl rfl) rfl rfl rfl ?_
          refine Run.one (ok_move rfl rfl) rfl rfl rfl ?_
          refine Run.one ((ok_call rfl rfl ((sAlong_spec (xs := []) (k := 1000) (by decide) (fun p hp => by cases hp) (by decide) (by decide)).args (args' := [eqS (.slice none 0 0)]) ⟨fun I v h => by rw [show v = .slice none 0 0 from h]; exact nil_sl, trivial⟩)).sub (bool_eq (c := true) rfl)) ⟨_, _, rfl, rfl, rfl⟩ rfl rfl ?_
          refine Run.one (ok_not rfl rfl) ⟨_, _, rfl, rfl, rfl⟩ rfl rfl ?_
          refine Run.one (ok_pick rfl rfl rfl) rfl rfl rfl ?_
          refine Run.nil ?_
          refine T_condF rfl rfl ?_
          refine T_skip ?_
          refine T_drawMPS [0, 1, 2, 5, 6, 7, 3, 4, 8, 9, 10, 11, 12, 13, 14] 8 [6] _ (by kernel_rfl) (by kernel_rfl) (.cons _ .slnil) ?_
          refine RunE.one (ok_move rfl rfl) rfl rfl rfl (by kernel_rfl) ?_
          refine RunE.one (ok_load_agg rfl rfl rfl rfl) rfl rfl rfl (by kernel_rfl) ?_
          refine RunE.one (ok_buildSlice rfl rfl (by decide) rfl (by simp) (by kernel_rfl) (by kernel_rfl)) rfl rfl rfl (by kernel_rfl) ?_
          refine RunE.lat (ok_load_agg rfl rfl rfl rfl) rfl rfl rfl ?_
          refine RunE.lat (ok_load_agg rfl rfl rfl rfl) rfl rfl rfl ?_
          refine RunE.lat (ok_load_agg rfl rfl rfl rfl) rfl rfl rfl ?_
          refine RunE.nil ⟨_, rfl, ?_⟩
          refine EffM.append 0 rfl rfl rfl rfl rfl rfl rfl hq (by rw [flat_pc, hRl]) (fun z hz => by rw [List.mem_singleton.1 hz]; rfl) (by unfold big; simp; omega) (by unfold big; simp; omega) fun q61 hq61 => ⟨(.cons _ .slnil), ?_⟩
          obtain ⟨b2, c2, rfl⟩ := rowOk_some hq61 (by omega)
          refine RunE.lat ((ok_lent 0 rfl rfl rfl (sAlong_spec (xs := R ++ [((b3, l3, d3), (c3, m3, e3))]) (k := 1000) (by decide) (fun p hp => by rcases List.mem_append.1 hp with hp | hp; exact hoR p hp; rw [List.mem_singleton.1 hp]; exact hoP) (by decide) (by rw [List.length_append, hRl]; unfold cap; simp; omega)) (fun I vs hc hd => by have := lent_row (R := R ++ [((b3, l3, d3), (c3, m3, e3))]) (by rw [cellsP_append]; exact hc) hq61 (by rw [List.length_append, hRl]; rfl) (by unfold big; simp; omega) (Nat.le_refl _) hd; rwa [List.take_of_length_le (by rw [List.length_append, hRl]; exact Nat.le_refl _)] at this)).sub (bool_eq hap)) rfl rfl rfl ?_
          refine RunE.nil ?_
          refine Run.one (ok_call rfl rfl (sSide_spec (by unfold cap; omega))) rfl rfl rfl ?_
          refine Run.one ((ok_cmp rfl rfl rfl rfl).sub (bool_eq (c := decide (crs x1 y1 x2 y2 x3 y3 = 0)) (decide_eq_decide.2 tri_eq))) rfl rfl rfl ?_
          refine Run.one ((ok_eql_bool rfl rfl rfl Tryz.isBool4).sub (bool_eq (c := true) (by simp))) rfl rfl rfl ?_
          refine Run.one (ok_move rfl rfl) rfl rfl rfl ?_
          refine Run.one (ok_call rfl rfl wakes9_spec) ⟨_, _, rfl, rfl, rfl⟩ rfl rfl ?_
          refine Run.one (ok_pick rfl rfl rfl) rfl rfl rfl ?_
          refine Run.one (ok_assign rfl rfl) rfl rfl rfl ?_
          refine Run.nil ?_
          refine T_ret ?_
          exact ⟨_, [], .one (.tmp rfl), List.nil_sublist _, rfl, rfl⟩
end Go.Proofs
