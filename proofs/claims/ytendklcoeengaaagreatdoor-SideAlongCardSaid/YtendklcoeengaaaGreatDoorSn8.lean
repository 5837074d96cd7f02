/- side.Along; the law SideAlong, on the facts. -/
import Derived.Test.YtendklcoeengaaaGreatDoorSn2
import Derived.Test.YtendklcoeengaaaGreatDoorSv1
namespace Go.Proofs
open Go Go.Sv Num
variable {G : Imm}
/-- do points lie along one line? as the program asks it: the first one that is not the first, and all by these two -/
def alongQ (o : Rat × Rat) (l : List (Rat × Rat)) : Option (Rat × Rat) → Bool
  | none => true
  | some q => l.all fun p => decide (crs o.1 o.2 q.1 q.2 p.1 p.2 = 0)
def alongB : List (Rat × Rat) → Bool
  | [] => true
  | o :: r => alongQ o (o :: r) ((o :: r).find? (fun a => !decide (a.1 = o.1 ∧ a.2 = o.2)))
theorem alongB_cons (o : Rat × Rat) (r : List (Rat × Rat)) : alongB (o :: r) = alongQ o (o :: r) ((o :: r).find? (fun a => !decide (a.1 = o.1 ∧ a.2 = o.2))) := rfl
def onL (a b : Rat × Rat) (p : Rat × Rat) : Prop := ∃ t : Rat, p.1 = a.1 + (b.1 - a.1) * t ∧ p.2 = a.2 + (b.2 - a.2) * t
theorem onL_a (a b : Rat × Rat) : onL a b a := ⟨0, by grind, by grind⟩
theorem onL_b (a b : Rat × Rat) : onL a b b := ⟨1, by grind, by grind⟩
theorem crs_onL {a b q p : Rat × Rat} (hq : onL a b q) (hp : onL a b p) : crs a.1 a.2 q.1 q.2 p.1 p.2 = 0 := by
  obtain ⟨s, h1, h2⟩ := hq
  obtain ⟨r, h3, h4⟩ := hp
  unfold crs
  rw [h1, h2, h3, h4]
  grind
theorem along_line {a b : Rat × Rat} {r : List (Rat × Rat)} (h : ∀ p ∈ a :: r, onL a b p) : alongB (a :: r) = true := by
  rw [alongB_cons]
  cases hf : (a :: r).find? (fun x => !decide (x.1 = a.1 ∧ x.2 = a.2)) with
  | none => rfl
  | some q => exact List.all_eq_true.2 fun p hp => decide_eq_true (crs_onL (h q (List.mem_of_find?_eq_some hf)) (h p hp))
theorem crs_scale {a b q p : Rat × Rat} {s : Rat} (h1 : q.1 = a.1 + (b.1 - a.1) * s) (h2 : q.2 = a.2 + (b.2 - a.2) * s) : crs a.1 a.2 q.1 q.2 p.1 p.2 = s * crs a.1 a.2 b.1 b.2 p.1 p.2 := by
  unfold crs
  rw [h1, h2]
  grind
theorem along_more {a b p : Rat × Rat} {r : List (Rat × Rat)} (h : ∀ x ∈ a :: b :: r, onL a b x) : alongB (a :: b :: r ++ [p]) = decide (crs a.1 a.2 b.1 b.2 p.1 p.2 = 0) := by
  show alongB (a :: (b :: r ++ [p])) = _
  rw [alongB_cons]
  have hsp : a :: (b :: r ++ [p]) = (a :: b :: r) ++ [p] := rfl
  rw [hsp, List.find?_append]
  cases hf : (a :: b :: r).find? (fun x => !decide (x.1 = a.1 ∧ x.2 = a.2)) with
  | some q =>
    have hq := h q (List.mem_of_find?_eq_some hf)
    have hne := List.find?_some hf
    simp only [Bool.not_eq_true', decide_eq_false_iff_not] at hne
    obtain ⟨s, h1, h2⟩ := hq
    have hs : s ≠ 0 := fun h0 => hne (by rw [h1, h2, h0]; constructor <;> grind)
    show ((a :: b :: r ++ [p]).all fun p => decide (crs a.1 a.2 q.1 q.2 p.1 p.2 = 0)) = _
    rw [List.all_append, List.all_cons (a := p), List.all_nil, Bool.and_true]
    have hall : ((a :: b :: r).all fun p => decide (crs a.1 a.2 q.1 q.2 p.1 p.2 = 0)) = true := List.all_eq_true.2 fun x hx => decide_eq_true (crs_onL ⟨s, h1, h2⟩ (h x hx))
    rw [hall, Bool.true_and]
    refine decide_eq_decide.2 ?_
    rw [crs_scale h1 h2]
    constructor
    · intro h0
      rcases Rat.mul_eq_zero.1 h0 with h3 | h3
      · exact absurd h3 hs
      · exact h3
    · intro h0; rw [h0]; grind
  | none =>
    have hall : ∀ x ∈ a :: b :: r, x.1 = a.1 ∧ x.2 = a.2 := fun x hx => by
      have := List.find?_eq_none.1 hf x hx
      simpa using this
    have hb := hall b (by simp)
    have hc : crs a.1 a.2 b.1 b.2 p.1 p.2 = 0 := by unfold crs; rw [hb.1, hb.2]; grind
    rw [hc, Option.none_or]
    cases hp : [p].find? (fun x => !decide (x.1 = a.1 ∧ x.2 = a.2)) with
    | none => rfl
    | some q =>
      have hqp : q = p := by have := List.mem_of_find?_eq_some hp; simpa using this
      subst hqp
      refine (List.all_eq_true.2 fun x hx => decide_eq_true ?_).trans (decide_eq_true rfl).symm
      rcases List.mem_append.1 hx with hx | hx
      · have := hall x hx
        unfold crs; rw [this.1, this.2]; grind
      · rw [List.mem_singleton.1 hx]
        exact crs_end ..
abbrev at0 (xs : List RawP) (i : Nat) : RawP := xs.getD i default
abbrev smP (p q : RawP) : Prop := (pv p).1 = (pv q).1 ∧ (pv p).2 = (pv q).2
abbrev crP (p q r : RawP) : Rat := crs (pv p).1 (pv p).2 (pv q).1 (pv q).2 (pv r).1 (pv r).2
theorem vSameP [Tab G] {p q : RawP} {k : Nat} (hk : 0 < k) (hp : PtOk k p) (hq : PtOk k q) (hs : 800 * k + 30000 ≤ cap) : PSpec Tryz.prog G 53 [aggS (pc p), aggS (pc q)] (boolS (decide (smP p q))) := by
  have i1 := isQ_lim (b := p.1.1) hp.1 hk
  have i2 := isQ_lim (b := p.2.1) hp.2 hk
  have i3 := isQ_lim (b := q.1.1) hq.1 hk
  have i4 := isQ_lim (b := q.2.1) hq.2 hk
  exact vSame_spec (hx1 := i1) (hy1 := i2) (hx2 := i3) (hy2 := i4) (by omega)
theorem sideP [Tab G] {p q r : RawP} {k : Nat} (hk : 0 < k) (hp : PtOk k p) (hq : PtOk k q) (hr : PtOk k r) (hs : 800 * k + 30000 ≤ cap) : PSpec Tryz.prog G 13 [aggS (pc p), aggS (pc q), aggS (pc r)] (intS .i64 (tri (crP p q r) 0)) := by
  have i1 := isQ_lim (b := p.1.1) hp.1 hk
  have i2 := isQ_lim (b := p.2.1) hp.2 hk
  have i3 := isQ_lim (b := q.1.1) hq.1 hk
  have i4 := isQ_lim (b := q.2.1) hq.2 hk
  have i5 := isQ_lim (b := r.1.1) hr.1 hk
  have i6 := isQ_lim (b := r.2.1) hr.2 hk
  exact sSide_spec (hx1 := i1) (hy1 := i2) (hx2 := i3) (hy2 := i4) (hx3 := i5) (hy3 := i6) (by omega)
/-- the first m are where the first one is -/
def smTo (xs : List RawP) (m : Nat) : Prop := ∀ i, i < m → smP (at0 xs i) (at0 xs 0)
def zrTo (xs : List RawP) (g m : Nat) : Prop := ∀ i, i < m → crP (at0 xs 0) (at0 xs g) (at0 xs i) = 0
theorem smTo_succ {xs : List RawP} {m : Nat} (h : smTo xs m) (h1 : smP (at0 xs m) (at0 xs 0)) : smTo xs (m + 1) := fun i hi => by
  rcases Nat.lt_or_ge i m with h2 | h2
  · exact h i h2
  · rw [show i = m by omega]; exact h1
theorem zrTo_succ {xs : List RawP} {g m : Nat} (h : zrTo xs g m) (h1 : crP (at0 xs 0) (at0 xs g) (at0 xs m) = 0) : zrTo xs g (m + 1) := fun i hi => by
  rcases Nat.lt_or_ge i m with h2 | h2
  · exact h i h2
  · rw [show i = m by omega]; exact h1
theorem mem_at0 {xs : List RawP} {p : RawP} (h : p ∈ xs) : ∃ i, i < xs.length ∧ p = at0 xs i := by
  obtain ⟨i, hi, e⟩ := List.mem_iff_getElem.1 h
  exact ⟨i, hi, by simp [at0, hi, e]⟩
theorem alongR_none {xs : List RawP} (h : smTo xs xs.length) : alongB (xs.map pv) = true := by
  cases xs with
  | nil => rfl
  | cons o r =>
    rw [List.map_cons, alongB_cons]
    have hn : (pv o :: r.map pv).find? (fun a => !decide (a.1 = (pv o).1 ∧ a.2 = (pv o).2)) = none := by
      rw [List.find?_eq_none, ← List.map_cons]
      intro x hx
      obtain ⟨p, hp, rfl⟩ := List.mem_map.1 hx
      obtain ⟨i, hi, rfl⟩ := mem_at0 hp
      have := h i hi
      simpa using this
    rw [hn]; rfl
theorem alongR_some {xs : List RawP} {g : Nat} (hg : g < xs.length) (h : smTo xs g) (hn : ¬ smP (at0 xs g) (at0 xs 0)) : alongB (xs.map pv) = xs.all fun p => decide (crP (at0 xs 0) (at0 xs g) p = 0) := by
  obtain ⟨q, hq⟩ : ∃ q, q = at0 xs g := ⟨_, rfl⟩
  rw [← hq] at hn ⊢
  have hqg : xs[g]? = some q := by rw [hq]; exact get_getD hg
  have hsp : xs = xs.take g ++ q :: xs.drop (g + 1) := by
    have h1 := List.take_append_drop g xs
    rw [List.drop_eq_getElem_cons hg] at h1
    have h2 := List.getElem_of_getElem? hqg
    rw [h2.2] at h1
    exact h1.symm
  cases xs with
  | nil => cases hg
  | cons o r =>
    have hf : ((o :: r).map pv).find? (fun a => !decide (a.1 = (pv o).1 ∧ a.2 = (pv o).2)) = some (pv q) := by
      rw [hsp, List.map_append, List.map_cons, List.find?_append, List.find?_cons_of_pos (by rw [Bool.not_eq_true']; exact decide_eq_false hn)]
      rw [List.find?_eq_none.2, Option.none_or]
      intro x hx
      obtain ⟨p, hp, rfl⟩ := List.mem_map.1 hx
      obtain ⟨i, hi, e⟩ := List.mem_iff_getElem.1 hp
      rw [List.length_take] at hi
      have := h i (by omega)
      rw [List.getElem_take] at e
      simp only [at0, List.getD_eq_getElem?_getD, List.getElem?_eq_getElem (show i < (o :: r).length by omega), e, Option.getD_some] at this
      simpa using this
    rw [List.map_cons] at hf ⊢
    rw [alongB_cons, hf]
    show ((pv o :: r.map pv).all fun p => decide (crs (pv o).1 (pv o).2 (pv q).1 (pv q).2 p.1 p.2 = 0)) = _
    rw [← List.map_cons, List.all_map]
    rfl
theorem sAlong_spec [Tab G] {xs : List RawP} {k : Nat} (hk : 0 < k) (hl : ∀ p ∈ xs, PtOk k p) (hs : 800 * k + 30000 ≤ cap) (hxl : xs.length ≤ cap) : PSpec Tryz.prog G 12 [slS 6 pc xs] (boolS (alongB (xs.map pv))) := by
  have hxl0 := hxl
  unfold cap at hxl0
  refine fn_spec Tryz.func12 rfl rfl rfl ?_
  refine T_regionS ?_
  refine Run.one (ok_assign rfl rfl) rfl rfl rfl ?_
  refine Run.nil ?_
  refine T_scope ?_
  refine T_regionS ?_
  refine Run.one (ok_assign rfl rfl) rfl rfl rfl ?_
  refine Run.nil ?_
  refine T_seq ?_
  refine T_label ?_
  refine T_seq ?_
  refine T_regionS ?_
  refine Run.one (ok_move rfl rfl) rfl rfl rfl ?_
  refine Run.one (ok_len rfl rfl) rfl rfl rfl ?_
  refine Run.one (ok_move rfl rfl) rfl rfl rfl ?_
  refine Run.nil ?_
  refine T_block ?_
  refine T_loop (γ := Nat) (fun g => ⟨_, [(10, intS .i64 (g : Nat)), (9, intS .i64 xs.length), (8, slS 6 pc xs), (3, boolS true), (0, slS 6 pc xs)], [], [], (0, false)⟩) (fun g => g ≤ xs.length ∧ smTo xs g) (fun g => xs.length - g) 0 ⟨Nat.zero_le _, fun i hi => absurd hi (by omega)⟩ (ent_g (subG_cons rfl (subG_cons rfl (subG_cons rfl (subG_cons rfl (subG_cons rfl (trivial))))))) ?_
  rintro g ⟨hg, hsm⟩
  refine T_regionS ?_
  refine Run.one (ok_cmp rfl rfl rfl rfl) rfl rfl rfl ?_
  refine Run.nil ?_
  refine T_seq ?_
  refine T_cond rfl rfl (fun h11 => ?_) (fun h11 => ?_)
  · have k11 := of_decide_eq_true h11
    refine T_skip ?_
    refine T_seq ?_
    refine T_block ?_
    refine T_regionS ?_
    refine Run.one (ok_move rfl rfl) rfl rfl rfl ?_
    refine Run.one (ok_indexAddr rfl rfl rfl (by omega) (y := at0 xs g) (get_getD (by omega))) rfl rfl rfl ?_
    refine Run.one ((show OpOK _ _ _ _ _ (aggS (pc (at0 xs g))) from ok_load_agg rfl rfl rfl rfl)) rfl rfl rfl ?_
    refine Run.alloc rfl rfl rfl rfl rfl fun b5 => ?_
    refine Run.one (ok_assign rfl rfl) rfl rfl rfl ?_
    refine Run.store 0 rfl rfl rfl rfl rfl rfl rfl rfl rfl ?_
    refine Run.nil ?_
    refine T_seq ?_
    refine T_drawS 5 (by kernel_rfl) ?_
    refine Run.one ((show OpOK _ _ _ _ _ (aggS (pc (at0 xs g))) from ok_load_own_agg 0 rfl rfl rfl (by kernel_rfl) rfl)) rfl rfl rfl ?_
    refine Run.one (ok_move rfl rfl) rfl rfl rfl ?_
    refine Run.one (ok_indexAddr rfl rfl rfl (by omega) (y := at0 xs 0) (get_getD (by omega))) rfl rfl rfl ?_
    refine Run.one ((show OpOK _ _ _ _ _ (aggS (pc (at0 xs 0))) from ok_load_agg rfl rfl rfl rfl)) rfl rfl rfl ?_
    refine Run.one (ok_call rfl rfl (vSameP hk (hl _ (getD_mem (by omega))) (hl _ (getD_mem (by omega))) hs)) rfl rfl rfl ?_
    refine Run.nil ?_
    refine Run.nil ?_
    refine T_cond rfl rfl (fun h19 => ?_) (fun h19 => ?_)
    · refine T_exit ?_
      refine T_ghost (ghost_drop (h' := []) (List.nil_sublist _)) ?_
      refine T_region ?_
      refine Run.one (ok_ari (z := ((g + 1 : Nat) : Int)) rfl rfl rfl (congrArg some (by omega)) (wrap_i64 (by omega) (by omega))) rfl rfl rfl ?_
      refine Run.one (ok_move rfl rfl) rfl rfl rfl ?_
      refine Run.nil ?_
      exact ⟨g + 1, ⟨by omega, smTo_succ hsm (of_decide_eq_true h19)⟩, by omega, rfl, subG_cons rfl (subG_cons rfl (subG_cons rfl (subG_cons rfl (subG_cons rfl (trivial))))), subH_refl _, rfl, rfl⟩
    · have hne : ¬ smP (at0 xs g) (at0 xs 0) := of_decide_eq_false h19
      have hall := alongR_some (by omega) hsm hne
      refine T_skip ?_
      refine T_seq ?_
      refine T_ghost (ghost_drop (h' := []) (List.nil_sublist _)) ?_
      refine T_regionS ?_
      refine Run.one (ok_move rfl rfl) rfl rfl rfl ?_
      refine Run.one (ok_len rfl rfl) rfl rfl rfl ?_
      refine Run.one (ok_move rfl rfl) rfl rfl rfl ?_
      refine Run.nil ?_
      refine T_block ?_
      refine T_loop (γ := Nat) (fun m => ⟨_, [(22, intS .i64 (m : Nat)), (21, intS .i64 xs.length), (20, slS 6 pc xs), (4, intS .i64 (g : Nat)), (3, boolS true), (0, slS 6 pc xs)], [], [], (0, false)⟩) (fun m => m ≤ xs.length ∧ zrTo xs g m) (fun m => xs.length - m) 0 ⟨Nat.zero_le _, fun i hi => absurd hi (by omega)⟩ (ent_g (subG_cons rfl (subG_cons rfl (subG_cons rfl (subG_cons rfl (subG_cons rfl (subG_cons rfl (trivial)))))))) ?_
      rintro m ⟨hm, hz⟩
      refine T_regionS ?_
      refine Run.one (ok_cmp rfl rfl rfl rfl) rfl rfl rfl ?_
      refine Run.nil ?_
      refine T_seq ?_
      refine T_cond rfl rfl (fun h23 => ?_) (fun h23 => ?_)
      · have k23 := of_decide_eq_true h23
        refine T_skip ?_
        refine T_seq ?_
        refine T_block ?_
        refine T_regionS ?_
        refine Run.one (ok_indexAddr rfl rfl rfl (by omega) (y := at0 xs m) (get_getD (by omega))) rfl rfl rfl ?_
        refine Run.one ((show OpOK _ _ _ _ _ (aggS (pc (at0 xs m))) from ok_load_agg rfl rfl rfl rfl)) rfl rfl rfl ?_
        refine Run.alloc rfl rfl rfl rfl rfl fun b7 => ?_
        refine Run.store 0 rfl rfl rfl rfl rfl rfl rfl rfl rfl ?_
        refine Run.nil ?_
        refine T_drawS 11 (by kernel_rfl) ?_
        refine Run.one (ok_move rfl rfl) rfl rfl rfl ?_
        refine Run.one (ok_indexAddr rfl rfl rfl (by omega) (y := at0 xs 0) (get_getD (by omega))) rfl rfl rfl ?_
        refine Run.one ((show OpOK _ _ _ _ _ (aggS (pc (at0 xs 0))) from ok_load_agg rfl rfl rfl rfl)) rfl rfl rfl ?_
        refine Run.one (ok_move rfl rfl) rfl rfl rfl ?_
        refine Run.one (ok_move rfl rfl) rfl rfl rfl ?_
        refine Run.one (ok_indexAddr rfl rfl rfl (by omega) (y := at0 xs g) (get_getD (by omega))) rfl rfl rfl ?_
        refine Run.one ((show OpOK _ _ _ _ _ (aggS (pc (at0 xs g))) from ok_load_agg rfl rfl rfl rfl)) rfl rfl rfl ?_
        refine Run.one ((show OpOK _ _ _ _ _ (aggS (pc (at0 xs m))) from ok_load_own_agg 0 rfl rfl rfl (by kernel_rfl) rfl)) rfl rfl rfl ?_
        refine Run.one (ok_call rfl rfl (sideP hk (hl _ (getD_mem (by omega))) (hl _ (getD_mem (by omega))) (hl _ (getD_mem (by omega))) hs)) rfl rfl rfl ?_
        refine Run.one (ok_cmp rfl rfl rfl rfl) rfl rfl rfl ?_
        refine Run.one (ok_assign rfl rfl) rfl rfl rfl ?_
        refine Run.nil ?_
        refine Run.nil ?_
        refine T_regionS ?_
        refine Run.one (ok_move rfl rfl) rfl rfl rfl ?_
        refine Run.one (ok_not rfl rfl) rfl rfl rfl ?_
        refine Run.nil ?_
        refine T_cond rfl rfl (fun h37 => ?_) (fun h37 => ?_)
        · have hc : ¬ crP (at0 xs 0) (at0 xs g) (at0 xs m) = 0 := fun h => by rw [h] at h37; exact absurd h37 (by decide)
          refine T_exit ?_
          refine T_regionS ?_
          refine Run.one (ok_move rfl rfl) rfl rfl rfl ?_
          refine Run.one (ok_assign rfl rfl) rfl rfl rfl ?_
          refine Run.nil ?_
          refine T_ret ?_
          exact ⟨_, [], .one (.tmp rfl), List.nil_sublist _, congrArg boolS ((beq_eq_false_iff_ne.2 fun h => hc (tri_eq.1 h)).trans (by rw [hall]; exact (List.all_eq_false.2 ⟨at0 xs m, getD_mem (by omega), by simpa using hc⟩).symm)), rfl⟩
        · have hb : (tri (crP (at0 xs 0) (at0 xs g) (at0 xs m)) 0 == 0) = true := by simpa using h37
          have hc : crP (at0 xs 0) (at0 xs g) (at0 xs m) = 0 := tri_eq.1 (beq_iff_eq.1 hb)
          refine T_skip ?_
          refine T_ghost (ghost_drop (h' := []) (List.nil_sublist _)) ?_
          refine T_region ?_
          refine Run.one (ok_ari (z := ((m + 1 : Nat) : Int)) rfl rfl rfl (congrArg some (by omega)) (wrap_i64 (by omega) (by omega))) rfl rfl rfl ?_
          refine Run.one (ok_move rfl rfl) rfl rfl rfl ?_
          refine Run.nil ?_
          exact ⟨m + 1, ⟨by omega, zrTo_succ hz hc⟩, by omega, rfl, subG_cons rfl (subG_cons rfl (subG_cons rfl (subG_cons rfl (subG_as rfl (congrArg boolS hb) (subG_cons rfl trivial))))), subH_refl _, rfl, rfl⟩
      · have k23 := of_decide_eq_false h23
        refine T_exit ?_
        refine T_exit ?_
        refine T_regionS ?_
        refine Run.one (ok_move rfl rfl) rfl rfl rfl ?_
        refine Run.one (ok_assign rfl rfl) rfl rfl rfl ?_
        refine Run.nil ?_
        refine T_ret ?_
        exact ⟨_, [], .one (.tmp rfl), List.nil_sublist _, congrArg boolS (by rw [hall]; exact (List.all_eq_true.2 fun p hp => by obtain ⟨i, hi, rfl⟩ := mem_at0 hp; exact decide_eq_true (hz i (by omega))).symm), rfl⟩
  · have k11 := of_decide_eq_false h11
    refine T_exit ?_
    refine T_regionS ?_
    refine Run.one (ok_move rfl rfl) rfl rfl rfl ?_
    refine Run.one (ok_assign rfl rfl) rfl rfl rfl ?_
    refine Run.nil ?_
    refine T_ret ?_
    exact ⟨_, [], .one (.tmp rfl), List.nil_sublist _, congrArg boolS (alongR_none (by rw [show g = xs.length by omega] at hsm; exact hsm)).symm, rfl⟩
end Go.Proofs
