/- Sides: rat.Sign, rat.Same, side. -/
import Derived.Test.YtofplgefmjojjaaGreatDoorSny
import Derived.Test.YtofplgefmjojjaaGreatDoorSv1
namespace Go.Proofs
open Go Go.Sv Num
variable {G : Imm}
def crs (x1 y1 x2 y2 x3 y3 : Rat) : Rat := (x2 - x1) * (y3 - y1) - (y2 - y1) * (x3 - x1)
abbrev btw (a b r : Rat) : Prop := (a ≤ r ∧ r ≤ b) ∨ (b ≤ r ∧ r ≤ a)
abbrev onP (x1 y1 x2 y2 x3 y3 : Rat) : Prop := crs x1 y1 x2 y2 x3 y3 = 0 ∧ btw x1 x2 x3 ∧ btw y1 y2 y3
theorem crs_swap (x1 y1 x2 y2 x3 y3 : Rat) : crs x2 y2 x1 y1 x3 y3 = -crs x1 y1 x2 y2 x3 y3 := by unfold crs; grind
theorem crs_same (x1 y1 x3 y3 : Rat) : crs x1 y1 x1 y1 x3 y3 = 0 := by unfold crs; grind
theorem crs_end (x1 y1 x2 y2 : Rat) : crs x1 y1 x2 y2 x2 y2 = 0 := by unfold crs; grind
theorem crs_end0 (x1 y1 x2 y2 : Rat) : crs x1 y1 x2 y2 x1 y1 = 0 := by unfold crs; grind
theorem crs_at (x1 y1 x2 y2 t : Rat) : crs x1 y1 x2 y2 (x1 + (x2 - x1) * t) (y1 + (y2 - y1) * t) = 0 := by unfold crs; grind
theorem btw_comm (a b r : Rat) : btw b a r ↔ btw a b r := Or.comm
theorem onP_comm (x1 y1 x2 y2 x3 y3 : Rat) : onP x2 y2 x1 y1 x3 y3 ↔ onP x1 y1 x2 y2 x3 y3 := by
 unfold onP; rw [crs_swap, btw_comm x1, btw_comm y1]
 constructor <;> rintro ⟨h, h'⟩ <;> exact ⟨by grind, h'⟩
theorem btw_at {a b t : Rat} : btw a b (a + (b - a) * t) ↔ a = b ∨ (0 ≤ t ∧ t ≤ 1) := by
 obtain ⟨w, hw⟩ : ∃ w, w = b - a := ⟨_, rfl⟩
 have hb : b = a + w := by grind
 rw [← hw, hb]
 obtain ⟨z, hz⟩ : ∃ z, z = w * t := ⟨_, rfl⟩
 rw [← hz]
 constructor
 ·intro h
  by_cases h0 : w = 0
  ·left; rw [h0]; grind
  ·right
   by_cases hn : w < 0
   ·have g1 : z ≤ 0 ∧ w ≤ z := by unfold btw at h; grind
    constructor
    ·refine Rat.not_lt.1 fun ht => ?_
     have := Rat.mul_pos (show 0 < -w by grind) (show 0 < -t by grind)
     grind
    ·refine Rat.not_lt.1 fun ht => ?_
     have := Rat.mul_pos (show 0 < -w by grind) (show 0 < t - 1 by grind)
     grind
   ·have hp : 0 < w := by grind
    have g1 : 0 ≤ z ∧ z ≤ w := by unfold btw at h; grind
    constructor
    ·refine Rat.not_lt.1 fun ht => ?_
     have := Rat.mul_pos hp (show 0 < -t by grind)
     grind
    ·refine Rat.not_lt.1 fun ht => ?_
     have := Rat.mul_pos hp (show 0 < t - 1 by grind)
     grind
 ·rintro (h | ⟨h0, h1⟩)
  ·have hw0 : w = 0 := by grind
   rw [hz, hw0]; unfold btw; grind
  ·by_cases hs : 0 ≤ w
   ·have g1 := Rat.mul_nonneg hs h0
    have g2 := Rat.mul_nonneg hs (show 0 ≤ 1 - t by grind)
    left; constructor <;> grind
   ·have g1 := Rat.mul_nonneg (show 0 ≤ -w by grind) h0
    have g2 := Rat.mul_nonneg (show 0 ≤ -w by grind) (show 0 ≤ 1 - t by grind)
    right; constructor <;> grind
theorem onP_at {x1 y1 x2 y2 t : Rat} : onP x1 y1 x2 y2 (x1 + (x2 - x1) * t) (y1 + (y2 - y1) * t) ↔ (0 ≤ t ∧ t ≤ 1) ∨ (x1 = x2 ∧ y1 = y2) := by
 unfold onP; rw [btw_at, btw_at]
 constructor
 ·rintro ⟨_, h1, h2⟩
  rcases h1 with h1 | h1
  ·rcases h2 with h2 | h2
   ·exact .inr ⟨h1, h2⟩
   ·exact .inl h2
  ·exact .inl h1
 ·rintro (h | ⟨h1, h2⟩)
  ·exact ⟨crs_at .., .inr h, .inr h⟩
  ·exact ⟨crs_at .., .inl h1, .inl h2⟩
theorem qSign_spec [Tab G] {b : Bool} {l d : List Nat} {q : Rat} {k : Nat} [h : IsQ b l d q k] (hs : 2 * k + 11000 ≤ cap := by decide) : PSpec Tryz.prog G 61 [aggS [boolS b, natS l, natS d]] (intS .i64 (tri q 0)) := by
 have hb := h.bq
 have i1 := hb.bz
 refine zs Tryz.func61 ?_;refine zr ?_;(iterate 2 refine zz ?_);refine zx ?_;refine zz ?_;refine zf (qof_spec hs) ?_;(iterate 4 refine zz ?_);refine zo ((ok_call rfl rfl (zSign_spec (by omega))).sub (int_eq sign_tri)) ?_;refine zz ?_;refine zzn ?_;refine T_ret ?_
 exact ⟨_, [], .one (.tmp rfl), List.nil_sublist _, rfl, rfl⟩
theorem side3_spec [Tab G] {b1 c1 : Bool} {l1 d1 m1 e1 : List Nat} {x1 y1 : Rat} {k1 j1 : Nat} [hx1 : IsQ b1 l1 d1 x1 k1] [hy1 : IsQ c1 m1 e1 y1 j1] {b2 c2 : Bool} {l2 d2 m2 e2 : List Nat} {x2 y2 : Rat} {k2 j2 : Nat} [hx2 : IsQ b2 l2 d2 x2 k2] [hy2 : IsQ c2 m2 e2 y2 j2] {b3 c3 : Bool} {l3 d3 m3 e3 : List Nat} {x3 y3 : Rat} {k3 j3 : Nat} [hx3 : IsQ b3 l3 d3 x3 k3] [hy3 : IsQ c3 m3 e3 y3 j3] (hs : 100 * (2 * (k1 + j1) + (k2 + j2) + (k3 + j3)) + 25000 ≤ cap := by decide) : PSpec Tryz.prog G 105 [aggS [boolS b1, natS l1, natS d1, boolS c1, natS m1, natS e1, boolS b2, natS l2, natS d2, boolS c2, natS m2, natS e2, boolS b3, natS l3, natS d3, boolS c3, natS m3, natS e3]] (intS .i64 (tri (crs x1 y1 x2 y2 x3 y3) 0)) := by
 have hxb1 := hx1.bq
 have hyb1 := hy1.bq
 have hxb2 := hx2.bq
 have hyb2 := hy2.bq
 have hxb3 := hx3.bq
 have hyb3 := hy3.bq
 refine zs Tryz.func105 ?_;refine zr ?_;(iterate 2 refine zz ?_);refine zzn ?_;refine T_drawS 13 (by kernel_rfl) ?_;(iterate 4 refine zz ?_);refine zo (ok_call rfl rfl (vSub_spec (by omega))) ?_;(iterate 4 refine zz ?_);refine zo (ok_call rfl rfl (vSub_spec (by omega))) ?_;refine zo (ok_call rfl rfl (vCross_spec (by omega))) ?_;refine zo ((ok_call rfl rfl (qSign_spec (by omega))).sub (int_eq rfl)) ?_;refine zz ?_;(iterate 2 refine zzn ?_);refine T_ret ?_
 exact ⟨_, [], .one (.tmp rfl), List.nil_sublist _, rfl, rfl⟩
end Go.Proofs
/- Rings of points: side.ring, side.Turns. -/
namespace Go.Proofs
open Go Go.Sv Num
variable {G : Imm}
abbrev RawP := (Bool × List Nat × List Nat) × (Bool × List Nat × List Nat)
def ring3 (xs : List RawP) (i : Nat) : RawP × RawP × RawP := (xs.getD ((i + xs.length - 1) % xs.length) default, xs.getD i default, xs.getD ((i + 1) % xs.length) default)
def ringX (xs : List RawP) : List (List SV) := (List.range xs.length).map fun i => [aggS (pc (ring3 xs i).1 ++ (pc (ring3 xs i).2.1 ++ pc (ring3 xs i).2.2))]
theorem ringX_length {xs : List RawP} : (ringX xs).length = xs.length := by simp [ringX]
theorem ringX_get {xs : List RawP} {i : Nat} (h : i < xs.length) : (ringX xs)[i]? = some [aggS (pc (ring3 xs i).1 ++ (pc (ring3 xs i).2.1 ++ pc (ring3 xs i).2.2))] := by simp [ringX, h]
theorem ringX_inv {xs : List RawP} {i : Nat} {ss : List SV} (h : (ringX xs)[i]? = some ss) : i < xs.length ∧ ss = [aggS (pc (ring3 xs i).1 ++ (pc (ring3 xs i).2.1 ++ pc (ring3 xs i).2.2))] := by
 have hl : i < xs.length := by rw [← ringX_length]; exact lt_of_get h
 rw [ringX_get hl] at h
 exact ⟨hl, (Option.some.inj h).symm⟩
theorem ringX_ss {xs : List RawP} {ss : List SV} (h : ss ∈ ringX xs) : ss.length = 1 := by
 simp only [ringX, List.mem_map] at h
 obtain ⟨i, _, rfl⟩ := h
 rfl
theorem get_getD {xs : List RawP} {i : Nat} (h : i < xs.length) : xs[i]? = some (xs.getD i default) := by simp [h]
theorem ring1_spec {xs : List RawP} : IterSpec Tryz.prog G 147 [ptrS [slS 6 pc xs]] (ringX xs) := by
 refine iter_spec Tryz.func147 rfl rfl rfl rfl fun l E hy => ?_;refine zr ?_;(iterate 3 refine zz ?_);refine zzn ?_;refine T_block ?_;refine T_len 4 rfl fun la => ?_
 unfold big at la
 refine T_loop (γ := Nat) (fun g => ⟨_, [(6, intS .i64 (g : Nat)), (5, intS .i64 xs.length), (4, slS 6 pc xs), (0, yieldS l), (1, ptrS [slS 6 pc xs])], [], [], (g, false)⟩) (fun g => g ≤ xs.length) (fun g => xs.length - g) 0 (Nat.zero_le _) (ent_g zk) ?_
 intro g hg
 refine zr ?_;refine zz ?_;refine zzn ?_;refine T_seq ?_;refine zzc (fun h7 => ?_) fun h7 => ?_
 ·have k7 := of_decide_eq_true h7
  have hm1 : (g + xs.length - 1) % xs.length < xs.length := Nat.mod_lt _ (by omega)
  have hm2 : (g + 1) % xs.length < xs.length := Nat.mod_lt _ (by omega)
  have hg1 : g < xs.length := by omega
  refine T_skip ?_;refine T_seq ?_;refine T_block ?_;refine zr ?_;(iterate 2 refine zz ?_);refine zzn ?_;refine T_drawS 25 (by kernel_rfl) ?_;(iterate 5 refine zz ?_);refine za ((g + xs.length : Nat) : Int) ?_;refine za ((g + xs.length - 1 : Nat) : Int) ?_;(iterate 2 refine zz ?_);refine zo ((ok_rem rfl rfl rfl (by omega) (by omega)).sub (int_eq (n := (((g + xs.length - 1) % xs.length : Nat) : Int)) (by simp [Int.tmod_eq_emod_of_nonneg]))) ?_;refine zo (ok_indexAddr rfl rfl rfl (by omega) (y := (ring3 xs g).1) (get_getD hm1)) ?_;refine zo ((show OpOK _ _ _ _ _ (aggS (pc (ring3 xs g).1)) from ok_load_agg rfl rfl rfl rfl)) ?_;(iterate 2 refine zz ?_);refine zo (ok_indexAddr rfl rfl rfl (by omega) (y := (ring3 xs g).2.1) (get_getD hg1)) ?_;refine zo ((show OpOK _ _ _ _ _ (aggS (pc (ring3 xs g).2.1)) from ok_load_agg rfl rfl rfl rfl)) ?_;(iterate 2 refine zz ?_);refine za ((g + 1 : Nat) : Int) ?_;(iterate 2 refine zz ?_);refine zo ((ok_rem rfl rfl rfl (by omega) (by omega)).sub (int_eq (n := (((g + 1) % xs.length : Nat) : Int)) (by simp [Int.tmod_eq_emod_of_nonneg]))) ?_;refine zo (ok_indexAddr rfl rfl rfl (by omega) (y := (ring3 xs g).2.2) (get_getD hm2)) ?_;refine zo ((show OpOK _ _ _ _ _ (aggS (pc (ring3 xs g).2.2)) from ok_load_agg rfl rfl rfl rfl)) ?_;refine zo ((show OpOK _ _ _ _ _ (aggS (pc (ring3 xs g).1 ++ (pc (ring3 xs g).2.1 ++ pc (ring3 xs g).2.2))) from ok_build rfl rfl (by kernel_rfl))) ?_;refine zzn ?_;refine Run.yield rfl hy rfl rfl rfl (ringX_get hg1) (subL_refl _) rfl rfl rfl fun y => ?_;refine zz ?_;refine zzn ?_;refine zzc (fun h35 => ?_) fun h35 => ?_
  ·refine T_ret ?_
   exact ⟨.inl rfl, .inr h35⟩
  ·refine T_skip ?_;refine T_region ?_;refine za ((g + 1 : Nat) : Int) ?_;refine zz ?_;refine zzn ?_
   exact ⟨g + 1, (by omega : g + 1 ≤ xs.length), by omega, rfl, subG_cons rfl (subG_cons rfl (subG_cons rfl (subG_cons rfl (subG_cons rfl (trivial))))), subH_refl _, rfl, by simp only; rw [h35]⟩
 ·have k7 := of_decide_eq_false h7
  refine T_exit ?_
  exact ⟨.inr rfl, .inl (by rw [ringX_length, show g = xs.length by omega])⟩
theorem ring_spec {xs : List RawP} : PSpec Tryz.prog G 104 [slS 6 pc xs] (fnS 147 [ptrS [slS 6 pc xs]]) := by
 refine zs Tryz.func104 ?_;refine zr ?_;(iterate 2 refine zz ?_);refine zx ?_;(iterate 2 refine zz ?_);refine zzn ?_;refine T_ret ?_
 exact ⟨_, [], .one (.tmp rfl), List.nil_sublist _, rfl, rfl⟩
end Go.Proofs
/- Turns of a ring. -/
namespace Go.Proofs
open Go Go.Sv Num
variable {G : Imm}
def turnV (xs : List RawP) (i : Nat) : Int := tri (crs (pv (ring3 xs i).1).1 (pv (ring3 xs i).1).2 (pv (ring3 xs i).2.1).1 (pv (ring3 xs i).2.1).2 (pv (ring3 xs i).2.2).1 (pv (ring3 xs i).2.2).2) 0
def turnsV (xs : List RawP) : List Int := if xs.length < 3 then [] else (List.range xs.length).map (turnV xs)
abbrev i64C (z : Int) : List SV := [intS .i64 z]
theorem flat_i64 : ∀ l : List Int, (l.flatMap i64C).length = l.length
 | [] => rfl
 | x :: l => by rw [List.flatMap_cons, List.length_append, flat_i64 l]; show 1 + l.length = l.length + 1; omega
theorem getD_mem {xs : List RawP} {i : Nat} (h : i < xs.length) : xs.getD i default ∈ xs := by simp [h]
theorem ring3_mem {xs : List RawP} {i : Nat} (h : i < xs.length) : (ring3 xs i).1 ∈ xs ∧ (ring3 xs i).2.1 ∈ xs ∧ (ring3 xs i).2.2 ∈ xs :=
 ⟨getD_mem (Nat.mod_lt _ (by omega)), getD_mem h, getD_mem (Nat.mod_lt _ (by omega))⟩
theorem side3_ring [Tab G] {xs : List RawP} {k i : Nat} (hk : 0 < k) (hl : ∀ p ∈ xs, PtOk k p) (hs : 800 * k + 30000 ≤ cap) (h : i < xs.length) : PSpec Tryz.prog G 105 [aggS (pc (ring3 xs i).1 ++ (pc (ring3 xs i).2.1 ++ pc (ring3 xs i).2.2))] (intS .i64 (turnV xs i)) := by
 obtain ⟨m1, m2, m3⟩ := ring3_mem h
 have i1 := isQ_lim (b := (ring3 xs i).1.1.1) (hl _ m1).1 hk
 have i2 := isQ_lim (b := (ring3 xs i).1.2.1) (hl _ m1).2 hk
 have i3 := isQ_lim (b := (ring3 xs i).2.1.1.1) (hl _ m2).1 hk
 have i4 := isQ_lim (b := (ring3 xs i).2.1.2.1) (hl _ m2).2 hk
 have i5 := isQ_lim (b := (ring3 xs i).2.2.1.1) (hl _ m3).1 hk
 have i6 := isQ_lim (b := (ring3 xs i).2.2.2.1) (hl _ m3).2 hk
 exact side3_spec (hx1 := i1) (hy1 := i2) (hx2 := i3) (hy2 := i4) (hx3 := i5) (hy3 := i6) (by omega)
theorem sTurns_spec [Tab G] {xs : List RawP} {k : Nat} (hk : 0 < k) (hl : ∀ p ∈ xs, PtOk k p) (hs : 800 * k + 30000 ≤ cap) (hxl : xs.length ≤ cap) : PSpec Tryz.prog G 57 [slS 6 pc xs] (slS 1 i64C (turnsV xs)) := by
 have hxl0 := hxl
 unfold cap at hxl0
 refine zs Tryz.func57 ?_;refine zr ?_;refine zzv fun b2 => ?_;refine zzn ?_;refine T_seq ?_;refine zr ?_;(iterate 3 refine zz ?_);refine zzn ?_;refine zzc (fun h6 => ?_) fun h6 => ?_
 ·have k6 := of_decide_eq_true h6
  refine zr ?_;refine zw ?_;refine Run.ghost _ rfl (ghost_cell (s' := slS 1 i64C []) (fun I v h => by rw [show v = .slice none 0 0 from h]; exact nil_sl)) ?_;refine zzn ?_;refine T_ret ?_
  exact ⟨_, [], .one (.own 0 inferInstance rfl rfl rfl), List.nil_sublist _, by rw [show turnsV xs = [] from if_pos (by omega)], rfl⟩
 ·have k6 := of_decide_eq_false h6
  refine T_skip ?_;refine T_seq ?_;refine T_ghost (ghost_row 3 1) ?_;refine zr ?_;refine zz ?_;refine zf ring_spec ?_;refine zzn ?_;refine T_block ?_
  refine T_rng rfl rfl ring1_spec (fun ss h => ringX_ss h) (by decide) rfl
   (fun k h i => i = (0, false) ∧ k ≤ xs.length ∧ ∃ q, rowOk q k ∧ h = [rowE q 3 1 k (((List.range k).map (turnV xs)).flatMap i64C), ⟨some b2, 39, [eqS (rowV q k)], 0⟩])
   (fun _ _ _ => False) ⟨rfl, Nat.zero_le _, none, rfl, rfl⟩ ?_ ?_ ?_
  ·rintro l k' ss h i hk' ⟨rfl, _, q, hq, rfl⟩
   obtain ⟨hkl, rfl⟩ := ringX_inv hk'
   refine T_region ?_;refine zzv fun b3 => ?_;refine zw ?_;refine zzn ?_
   refine ⟨rfl, ?_⟩
   refine T_block ?_;refine T_draw 4 (by kernel_rfl) ?_;refine zz ?_;refine zo ((show OpOK _ _ _ _ _ (aggS (pc (ring3 xs k').1 ++ (pc (ring3 xs k').2.1 ++ pc (ring3 xs k').2.2))) from ok_load_own_agg 0 rfl rfl rfl (by kernel_rfl) rfl)) ?_;refine zf (side3_ring hk hl hs hkl) ?_;refine zo (ok_buildSlice rfl rfl (by decide) rfl (by simp) rfl rfl) ?_;refine zzn ?_;refine Run.append 1 rfl rfl rfl rfl rfl rfl rfl rfl hq (by rw [flat_i64]; simp) (fun z hz => by rw [List.mem_singleton.1 hz]; rfl) (by unfold big; simp; omega) (by unfold big; simp; omega) fun q14 hq14 => ?_;refine zw ?_;refine Run.ghost _ rfl (ghost_drop (List.sublist_cons_self _ _)) ?_;refine zzn ?_
   refine ⟨rfl, by omega, q14, hq14, ?_⟩
   rw [List.range_succ, List.map_append, List.flatMap_append]; rfl
  ·rintro h i D ⟨rfl, _, q, hq, rfl⟩
   rw [ringX_length] at hq ⊢
   refine T_ghost (ghost_slc [] [] [] hq (l := (List.range xs.length).map (turnV xs)) (f := i64C) (by simp) rfl (fun _ _ => rfl) (by unfold big; omega)) ?_;refine zr ?_;refine zz ?_;refine zw ?_;refine zzn ?_;refine T_ret ?_
   exact ⟨_, [], .one (.own 0 inferInstance rfl rfl rfl), List.nil_sublist _, by rw [show turnsV xs = _ from if_neg (by omega)], rfl⟩
  ·intro h i D e c hc hInv; exact hInv.elim
end Go.Proofs
/- How great points and numbers are. -/
namespace Go.Proofs
open Go Go.Sv Num
variable {G : Imm}
theorem T_cells {P : Program} {E : Env} {r : Option Nat} {S : St} {c : Code} {Q : Exit → St → Prop} {α : Type} {st : Nat} {f : α → List SV} {l : List α} (t : Nat) (hg : Go.Sv.look t S.g = some (slS st f l)) (h : (∀ x ∈ l, ∃ I, ∀ (j : Nat) s, (f x)[j]? = some s → ∃ v, s.den I v) → T P G E r c S Q) : T P G E r c S Q :=
 T_fact (fun I F a W hs => by
  obtain ⟨_, _, _, _, _, h3⟩ := hs.g t _ hg
  intro x hx
  refine ⟨I, fun j s hj => ?_⟩
  rcases h3 with h3 | ⟨b, o, _, h4⟩
  ·rw [h3] at hx; cases hx
  ·obtain ⟨i, hi⟩ := List.getElem?_of_mem hx
   obtain ⟨_, _, h5⟩ := h4 i x hi
   obtain ⟨v, _, hv, _⟩ := h5 j s hj
   exact ⟨v, hv⟩) h
theorem nat_big {I : Imm} {l : List Nat} (h : ∃ v, (natS l).den I v) : l.length ≤ big := by
 obtain ⟨_, _, _, _, _, h, _⟩ := h
 exact h
def gs {α : Type} (sz : α → Nat) (xs : List α) (k : Nat) : Nat := ((xs.take k).map fun p => min (sz p) 1000).sum
theorem gs_succ {α : Type} {sz : α → Nat} {xs : List α} {k : Nat} {p : α} (h : xs[k]? = some p) : gs sz xs (k + 1) = gs sz xs k + min (sz p) 1000 := by
 unfold gs; rw [List.take_add_one, h]; simp
theorem gs_le {α : Type} (sz : α → Nat) (xs : List α) : ∀ k, gs sz xs k ≤ 1000 * k
  | 0 => by simp [gs]
  | k + 1 => by
    have := gs_le sz xs k
    cases h : xs[k]? with
    | none => unfold gs at *; rw [List.take_add_one, h]; simp at *; omega
    | some p => rw [gs_succ h]; omega
def tsz (p : RawP) : Nat := p.1.2.1.length + p.1.2.2.length + p.2.2.1.length + p.2.2.2.length
end Go.Proofs
/- straitlaw09: what the document says of three points; the law SideTurns, on the facts. -/
namespace Go.Proofs
open Go Go.Sv Num
variable {G : Imm}
instance bq_five : Bq 5 1 := ⟨by decide, by decide⟩
end Go.Proofs
