/- straitlaw14: the law ValidTurns, on the facts. -/
import Derived.Test.YtofplgefmjojjaaGreatDoorSgl
namespace Num
open Go Go.Proofs
abbrev rowD (r : List RP) : Nat × Bool := (r.length, simB (r.map pv))
theorem any_perm {α : Type} {p : α → Bool} {l m : List α} (h : l.Perm m) : l.any p = m.any p := by
 rw [Bool.eq_iff_iff, List.any_eq_true, List.any_eq_true]
 constructor
 ·rintro ⟨x, hx, hp⟩; exact ⟨x, h.mem_iff.1 hx, hp⟩
 ·rintro ⟨x, hx, hp⟩; exact ⟨x, h.mem_iff.2 hx, hp⟩
theorem code_perm {s t : Sc} (h1 : t.1.length = s.1.length) (h2 : cvxB (t.1.map pv) = cvxB (s.1.map pv)) (h3 : (t.2.1.map rowD).Perm (s.2.1.map rowD)) (h4 : t.2.2.length = s.2.2.length) : codeF t = codeF s ∧ tris t = tris s := by
 have e1 : ∀ u : Sc, (u.2.1.any fun r => !inB r.length 6) = (u.2.1.map rowD).any fun d => !inB d.1 6 := fun u => by rw [List.any_map]; rfl
 have e2 : ∀ u : Sc, (u.2.1.any fun r => !simB (r.map pv)) = (u.2.1.map rowD).any fun d => !d.2 := fun u => by rw [List.any_map]; rfl
 have e3 : ∀ u : Sc, tris u = ((u.2.1.map rowD).map fun d => d.1 - 2).sum := fun u => by unfold tris; rw [List.map_map]; rfl
 have e4 : t.2.1.length = s.2.1.length := by have := h3.length_eq; rwa [List.length_map, List.length_map] at this
 have ht : tris t = tris s := by rw [e3, e3]; exact (h3.map _).sum_nat
 refine ⟨?_, ht⟩
 have c0 : clB t 0 = clB s 0 := by
  show cntB t = cntB s
  unfold cntB
  rw [e1, e1, any_perm h3, h1, h4, e4, ht]
 have c1 : clB t 1 = clB s 1 := h2
 have c2 : clB t 2 = clB s 2 := by
  show (!(t.2.1.any fun r => !simB (r.map pv))) = !(s.2.1.any fun r => !simB (r.map pv))
  rw [e2, e2, any_perm h3]
 unfold codeF
 rw [c0, c1, c2]
theorem turnF_map {α β : Type} (f : α → β) (l : List α) (at0 : Int) (back : Bool) : (turnF l at0 back).map f = turnF (l.map f) at0 back := by
 unfold turnF
 rw [List.length_map]
 cases back <;> simp [List.map_drop, List.map_take]
theorem turnF_length {α : Type} (l : List α) (at0 : Int) (back : Bool) : (turnF l at0 back).length = l.length := by
 unfold turnF
 cases back <;> simp <;> omega
theorem turnF_mem {α : Type} {l : List α} {at0 : Int} {back : Bool} {x : α} (h : x ∈ turnF l at0 back) : x ∈ l := by
 unfold turnF at h
 cases back
 ·simp only [Bool.false_eq_true, if_false, List.mem_append] at h
  exact h.elim List.mem_of_mem_drop List.mem_of_mem_take
 ·simp only [if_true, List.mem_reverse, List.mem_append] at h
  exact h.elim List.mem_of_mem_drop List.mem_of_mem_take
theorem turnK {l : List V2} (h : 0 < l.length) (at0 : Int) : ((at0.tmod (l.length : Nat) + (l.length : Nat)) % (l.length : Nat)).toNat ≤ l.length := by
 obtain ⟨K, hK, e, _, _⟩ := ring0 (z := at0) h
 rw [e, Int.toNat_natCast]; omega
theorem turnF_nil {α : Type} (at0 : Int) (back : Bool) : turnF ([] : List α) at0 back = [] := by unfold turnF; cases back <;> simp
theorem turn_sim (l : List V2) (at0 : Int) (back : Bool) : simB (turnF l at0 back) = simB l := by
 rcases Nat.eq_zero_or_pos l.length with h | h
 ·rw [List.eq_nil_of_length_eq_zero h, turnF_nil]
 unfold turnF
 cases back
 ·exact simB_rot (turnK h at0)
 ·simp only [if_true]
  rw [simB_reverse]; exact simB_rot (turnK h at0)
theorem turn_cvx (l : List V2) (at0 : Int) : cvxB (turnF l at0 false) = cvxB l := by
 rcases Nat.eq_zero_or_pos l.length with h | h
 ·rw [List.eq_nil_of_length_eq_zero h, turnF_nil]
 exact cvx_rot (turnK h at0)
def trI (s : Sc) (at0 : Int) (i : Nat) : List RP := turnF (s.2.1.getD i []) (IntKind.i64.wrap (at0 + (i : Int))) (((i : Int) % 2) == 0)
def trT (s : Sc) (at0 : Int) (k : Nat) : List (List RP) := perL k fun j => trI s at0 (s.2.1.length - 1 - j)
theorem trT_len (s : Sc) (at0 : Int) (k : Nat) : (trT s at0 k).length = k := perL_length ..
theorem trT_perm (s : Sc) (at0 : Int) : ((trT s at0 s.2.1.length).map rowD).Perm (s.2.1.map rowD) := by
 have : (trT s at0 s.2.1.length).map rowD = (s.2.1.map rowD).reverse := by
  refine List.ext_getElem? fun i => ?_
  by_cases h : i < s.2.1.length
  ·rw [List.getElem?_reverse (by rw [List.length_map]; exact h), List.getElem?_map, List.getElem?_map, List.length_map]
   have h2 : s.2.1.length - 1 - i < s.2.1.length := by omega
   have e1 : (trT s at0 s.2.1.length)[i]? = some (trI s at0 (s.2.1.length - 1 - i)) := by unfold trT perL; simp [h]
   have e2 : s.2.1[s.2.1.length - 1 - i]? = some (s.2.1.getD (s.2.1.length - 1 - i) []) := by simp [h2]
   rw [e1, e2]
   show some (rowD _) = some (rowD _)
   congr 1
   unfold trI rowD
   rw [turnF_length, turnF_map, turn_sim]
  ·rw [List.getElem?_eq_none (by rw [List.length_map, trT_len]; omega), List.getElem?_eq_none (by rw [List.length_reverse, List.length_map]; omega)]
 rw [this]; exact List.reverse_perm _
def mvA (b : V2) (l : List RP) : List RP := l.map fun p => rep (add2 (pv p) b)
def mvS (b : V2) (l : List RP) : List RP := l.map fun p => rep (sub2 (pv p) b)
theorem mvA_pv (b : V2) (l : List RP) : (mvA b l).map pv = (l.map pv).map fun p => add2 p b := by
 unfold mvA; rw [List.map_map, List.map_map]; exact List.map_congr_left fun p _ => pv_rep _
theorem mvS_pv (b : V2) (l : List RP) : (mvS b l).map pv = (l.map pv).map fun p => sub2 p b := by
 unfold mvS; rw [List.map_map, List.map_map]; exact List.map_congr_left fun p _ => pv_rep _
theorem mv_code (s : Sc) (b : V2) : codeF (mvA b s.1, s.2.1.map (mvS b), s.2.2) = codeF s := by
 refine (code_perm (s := s) (t := (mvA b s.1, s.2.1.map (mvS b), s.2.2)) (by show (mvA b s.1).length = _; unfold mvA; rw [List.length_map]) (by show cvxB ((mvA b s.1).map pv) = _; rw [mvA_pv, cvx_add]) ?_ rfl).1
 show ((s.2.1.map (mvS b)).map rowD).Perm _
 rw [List.map_map]
 refine List.Perm.of_eq (List.map_congr_left fun r _ => ?_)
 show rowD (mvS b r) = rowD r
 unfold rowD
 rw [mvS_pv, simB_sub]
 unfold mvS; simp
end Num
namespace Go.Proofs
open Go Go.Sv Num
variable {G : Imm}
theorem addP {p q : RawP} (hp : LimR p) (hq : LimR q) (hs : 64 * (tsz p + tsz q + 4) + 23000 ≤ 65536) : PSpec Tryz.prog G 15 [aggS (pc p), aggS (pc q)] (aggS (pcan (add2 (pv p) (pv q)))) := by
 have i1 := isQ_sz (b := p.1.1) hp.1.1 hp.1.2
 have i2 := isQ_sz (b := p.2.1) hp.2.1 hp.2.2
 have i3 := isQ_sz (b := q.1.1) hq.1.1 hq.1.2
 have i4 := isQ_sz (b := q.2.1) hq.2.1 hq.2.2
 exact rpAdd_spec (hx1 := i1) (hy1 := i2) (hx2 := i3) (hy2 := i4) (by unfold tsz at hs; omega)
theorem subP {p q : RawP} (hp : LimR p) (hq : LimR q) (hs : 64 * (tsz p + tsz q + 4) + 23000 ≤ 65536) : PSpec Tryz.prog G 42 [aggS (pc p), aggS (pc q)] (aggS (pcan (sub2 (pv p) (pv q)))) := by
 have i1 := isQ_sz (b := p.1.1) hp.1.1 hp.1.2
 have i2 := isQ_sz (b := p.2.1) hp.2.1 hp.2.2
 have i3 := isQ_sz (b := q.1.1) hq.1.1 hq.1.2
 have i4 := isQ_sz (b := q.2.1) hq.2.1 hq.2.2
 exact rpSub_spec (hx1 := i1) (hy1 := i2) (hx2 := i3) (hy2 := i4) (by unfold tsz at hs; omega)
theorem bp_add {u v : V2} {k j : Nat} (h : Bp u k) (h' : Bp v j) : Bp (add2 u v) (k + j + 1) := by
 have := h.x; have := h.y; have := h'.x; have := h'.y
 exact ⟨(bq_add : Bq (u.1 + v.1) _), (bq_add : Bq (u.2 + v.2) _)⟩
theorem tsz_six {p : RawP} (h : PtOk 6 p) : tsz p ≤ 24 := by unfold tsz; have := h.1.2.2; have := h.2.2.2; omega
theorem lim_pt {k : Nat} {p : RawP} (h : PtOk k p) : LimR p := ⟨⟨h.1.1, h.1.2.1⟩, h.2.1, h.2.2.1⟩
theorem vok_turn {s : Sc} {at0 : Int} (hv : VOk s 6) (hr : s.1.length ≤ 100) (ho : ∀ r ∈ s.2.1, r.length ≤ 100) : VOk (turnF s.1 at0 false, trT s at0 s.2.1.length, s.2.2) 6 := by
 have hm : ∀ r ∈ trT s at0 s.2.1.length, ∃ r0 ∈ s.2.1, (∀ p ∈ r, p ∈ r0) ∧ r.length = r0.length := fun r h => by
  unfold trT perL at h
  obtain ⟨j, hj, rfl⟩ := List.mem_map.1 h
  have hj := List.mem_range.1 hj
  have h2 : s.2.1.length - 1 - j < s.2.1.length := by omega
  exact ⟨s.2.1.getD (s.2.1.length - 1 - j) [], by simp [h2], fun p hp => turnF_mem hp, turnF_length ..⟩
 refine ⟨hv.pos, fun p hp => hv.rob p (turnF_mem (show p ∈ turnF s.1 at0 false from hp)), fun r h p hp => ?_, by show (turnF s.1 at0 false).length ≤ _; rw [turnF_length]; omega, by show (trT s at0 _).length ≤ _; rw [trT_len]; exact hv.ol, fun r h => ?_, hv.ql⟩
 ·obtain ⟨r0, h0, h1, _⟩ := hm r h
  exact hv.obs r0 h0 p (h1 p hp)
 ·obtain ⟨r0, h0, _, h2⟩ := hm r h
  rw [h2]; exact hv.orl r0 h0
theorem vok_mv {s : Sc} {pb : RawP} (hv : VOk s 6) (hb : PtOk 80 pb) : VOk (mvA (pv pb) s.1, s.2.1.map (mvS (pv pb)), s.2.2) 100 := by
 have b0 := bp_raw (by decide) hb
 refine ⟨by decide, fun p hp => ?_, fun r hr p hp => ?_, by show (mvA (pv pb) s.1).length ≤ _; unfold mvA; rw [List.length_map]; exact hv.rl, by show (s.2.1.map _).length ≤ _; rw [List.length_map]; exact hv.ol, fun r hr => ?_, hv.ql⟩
 ·unfold mvA at hp
  obtain ⟨q, hq, rfl⟩ := List.mem_map.1 hp
  exact bp_rep (bp_le (bp_add (bp_raw hv.pos (hv.rob q hq)) b0) (by omega))
 ·obtain ⟨r0, h0, rfl⟩ := List.mem_map.1 hr
  unfold mvS at hp
  obtain ⟨q, hq, rfl⟩ := List.mem_map.1 hp
  exact bp_rep (bp_le (bp_sub (bp_raw hv.pos (hv.obs r0 h0 q hq)) b0) (by omega))
 ·obtain ⟨r0, h0, rfl⟩ := List.mem_map.1 hr
  unfold mvS; rw [List.length_map]; exact hv.orl r0 h0
theorem mv_succ {α β : Type} (f : α → β) {l : List α} {g : Nat} {x : α} (h : l[g]? = some x) : (l.take (g + 1)).map f = (l.take g).map f ++ [f x] := by rw [List.take_add_one, h]; simp
theorem validTurns_spec [Tab G] [MaxLen G] {s : Sc} (hl : ScLim s) {at0 : Int} {pb : RawP} (hlb : LimR pb) : PSpec Tryz.prog G 7 [aggS (scC s), intS .i64 at0, aggS (pc pb)] (boolS true) := by
 refine fn_spec Tryz.func7 rfl rfl rfl ?_
 refine T_regionS ?_
 iterate 2 refine Run.one (ok_box rfl rfl) rfl rfl rfl ?_
 refine Run.one (ok_assign rfl rfl) rfl rfl rfl ?_
 refine Run.nil ?_
 refine T_seq ?_
 refine T_seqQ (K := fun S1 => ∃ w : Bool, (w = false → Sm s ∧ (¬ (20 < 1 ∨ 80 < gs tsz [pb] 1))) ∧ Ent S1 ⟨150, [(22, boolS w), (5, ptrS (pc pb)), (3, ptrS (scC s)), (1, intS .i64 at0)], [], [], (0, false)⟩) ?_ ?_
 ·refine T_region ?_
  refine Run.one ((show OpOK _ _ _ _ _ (aggS (scC s)) from ok_load_agg rfl rfl rfl rfl)) rfl rfl rfl ?_
  refine Run.one (ok_call rfl rfl vSmall_spec) rfl rfl rfl ?_
  refine Run.oneB (ok_not rfl rfl) rfl rfl rfl (fun h1_2 => ?_) (fun h1_2 => ?_)
  ·refine Run.one (ok_move rfl rfl) rfl rfl rfl ?_
   iterate 3 refine Run.no (gB rfl rfl rfl rfl) rfl rfl ?_
   refine Run.one (ok_pick rfl rfl rfl) rfl rfl rfl ?_
   refine Run.nil ?_
   exact ⟨true, (fun h => by cases h), ent_g (subG_cons rfl (subG_cons rfl (subG_cons rfl (subG_cons rfl (trivial)))))⟩
  ·refine Run.one (ok_move rfl rfl) rfl rfl rfl ?_
   refine Run.one ((show OpOK _ _ _ _ _ (aggS (pc (pb))) from ok_load_agg rfl rfl rfl rfl)) (gB rfl rfl rfl rfl) rfl rfl ?_
   refine Run.one (ok_buildSlice rfl rfl (by decide) rfl (by simp) (by kernel_rfl) (by kernel_rfl)) (gB rfl rfl rfl rfl) rfl rfl ?_
   refine Run.one (ok_call rfl rfl ((great13_spec (xs := [pb])).args ⟨fun _ _ h => sl_pair (f := pc) [pb] h, trivial⟩)) (gB rfl rfl rfl rfl) rfl rfl ?_
   refine Run.one (ok_pick rfl rfl rfl) rfl rfl rfl ?_
   refine Run.nil ?_
   exact ⟨_, (fun h => ⟨smB_true (by simpa using h1_2), of_decide_eq_false h⟩), ent_g (subG_cons rfl (subG_cons rfl (subG_cons rfl (subG_cons rfl (trivial)))))⟩
 ·rintro S1 ⟨w, hw, hS1⟩
  refine T_pre hS1 ?_
  refine T_cond rfl rfl (fun h22 => ?_) (fun h22 => ?_)
  ·refine T_regionS ?_
   refine Run.one (ok_call rfl rfl wakes14_spec) rfl rfl rfl ?_
   refine Run.one (ok_assign rfl rfl) rfl rfl rfl ?_
   refine Run.nil ?_
   refine T_ret ?_
   exact ⟨_, [], .one (.tmp rfl), List.nil_sublist _, rfl, rfl⟩
  ·obtain ⟨hsm, hgp⟩ := hw h22
   have hv := vok_of (gr_ok hl hsm.1.1) (by decide)
   obtain ⟨_, hpb, hpt, _⟩ := gr13 (xs := [pb]) (fun p hp => by rw [List.mem_singleton.1 hp]; exact hlb) hgp
   have hb80 := hpb pb List.mem_cons_self
   have hbt := hpt pb List.mem_cons_self
   have hol := hsm.1.2.2
   have hrl := hsm.1.2.1
   have hor := hsm.2.1
   refine T_skip ?_
   refine T_drawAS 7 (by kernel_rfl) rfl rfl ?_
   refine RunE.lat (ok_fieldAddr rfl rfl rfl) rfl rfl rfl ?_
   refine RunE.lat (ok_load rfl rfl) rfl rfl rfl ?_
   refine RunE.lat (ok_move rfl rfl) rfl rfl rfl ?_
   refine RunE.lat (ok_call rfl rfl (turned_spec (by omega))) rfl rfl rfl ?_
   refine RunE.lat (ok_fieldAddr rfl rfl rfl) rfl rfl rfl ?_
   refine RunE.lat (ok_load rfl rfl) rfl rfl rfl ?_
   refine RunE.lat ((show OpOK _ _ _ _ _ (aggS [slS 6 pc (turnF s.1 at0 false), eqS (.slice none 0 0), slS 12 queC s.2.2]) from ok_build rfl rfl (by kernel_rfl))) rfl rfl rfl ?_
   refine RunE.nil ?_
   refine EffAA.mk1 rfl rfl rfl rfl rfl rfl rfl rfl (by intro h; cases h) rfl rfl rfl fun b7 => ?_
   refine Run.nil ?_
   refine T_seq ?_
   refine T_regionS ?_
   refine Run.one (ok_fieldAddr rfl rfl rfl) rfl rfl rfl ?_
   refine Run.one (ok_load rfl rfl) rfl rfl rfl ?_
   refine Run.one (ok_len rfl rfl) rfl rfl rfl ?_
   refine Run.one (ok_ari (z := (s.2.1.length : Int) - 1 - (0 : Nat)) rfl rfl rfl (congrArg some (by omega)) (wrap_i64 (by omega) (by omega))) rfl rfl rfl ?_
   refine Run.one (ok_assign rfl rfl) rfl rfl rfl ?_
   refine Run.nil ?_
   refine T_block ?_
   refine T_ghost (ghost_row 22 1) ?_
   refine T_loop2 (fun (k : Nat) (q : Option (Nat × Nat)) => ⟨150, [(8, intS .i64 ((s.2.1.length : Int) - 1 - (k : Nat))), (7, eqS (.pointer (some ⟨b7, 0, none⟩))), (5, ptrS (pc pb)), (3, ptrS (scC s)), (1, intS .i64 at0)], [rowE q 22 1 k ((trT s at0 k).flatMap rowC), ⟨some b7, 54, [slS 6 pc (turnF s.1 at0 false), eqS (rowV q k), slS 12 queC s.2.2], 0⟩], [], (0, false)⟩) (fun k q => k ≤ s.2.1.length ∧ rowOk q k) (fun k _ => s.2.1.length - k) 0 none ⟨Nat.zero_le _, rfl⟩ (ent_h (subG_cons rfl (subG_cons rfl (subG_cons rfl (subG_cons rfl (subG_cons rfl (trivial)))))) rfl) ?_
   rintro k q ⟨hk, hq⟩
   refine T_seq ?_
   refine T_regionS ?_
   refine Run.one (ok_move rfl rfl) rfl rfl rfl ?_
   refine Run.one (ok_cmp rfl rfl rfl rfl) rfl rfl rfl ?_
   refine Run.nil ?_
   refine T_cond rfl rfl (fun h36 => ?_) (fun h36 => ?_)
   ·have k36 := of_decide_eq_true h36
    have hkm : k < s.2.1.length := by omega
    obtain ⟨r, hr⟩ : ∃ r, s.2.1[(s.2.1.length - 1 - k)]? = some r := ⟨_, List.getElem?_eq_getElem (by omega)⟩
    have hr8 := (hor r (List.mem_of_getElem? hr)).1
    have hrd : s.2.1.getD (s.2.1.length - 1 - k) [] = r := by rw [List.getD_eq_getElem?_getD, hr]; rfl
    have hsu : trT s at0 (k + 1) = trT s at0 k ++ [turnF r (IntKind.i64.wrap (at0 + (((s.2.1.length - 1 - k) : Nat) : Int))) ((((s.2.1.length - 1 - k) : Nat) : Int) % 2 == 0)] := by unfold trT; rw [perL_succ]; unfold trI; rw [hrd]
    refine T_skip ?_
    refine T_seq ?_
    refine T_block ?_
    refine T_drawM 18 [15, 17] _ (by kernel_rfl) (.cons _ (.cons _ .slnil)) ?_
    refine RunE.one (ok_fieldAddr_eq rfl rfl rfl) rfl rfl rfl (by kernel_rfl) ?_
    refine RunE.one (ok_load_own 1 rfl rfl rfl rfl) rfl rfl rfl (by kernel_rfl) ?_
    refine RunE.one (ok_fieldAddr rfl rfl rfl) rfl rfl rfl (by kernel_rfl) ?_
    refine RunE.one (ok_load rfl rfl) rfl rfl rfl (by kernel_rfl) ?_
    refine RunE.one ((ok_move rfl rfl).sub (int_eq (n := (((s.2.1.length - 1 - k) : Nat) : Int)) (by omega))) rfl rfl rfl (by kernel_rfl) ?_
    refine RunE.one (ok_indexAddr rfl rfl rfl (by omega) (y := r) (hr)) rfl rfl rfl (by kernel_rfl) ?_
    refine RunE.one (ok_load rfl rfl) rfl rfl rfl (by kernel_rfl) ?_
    refine RunE.one (ok_move rfl rfl) rfl rfl rfl (by kernel_rfl) ?_
    refine RunE.one ((ok_move rfl rfl).sub (int_eq (n := (((s.2.1.length - 1 - k) : Nat) : Int)) (by omega))) rfl rfl rfl (by kernel_rfl) ?_
    refine RunE.one (ok_ari_wrap rfl rfl rfl rfl) rfl rfl rfl (by kernel_rfl) ?_
    refine RunE.one ((ok_move rfl rfl).sub (int_eq (n := (((s.2.1.length - 1 - k) : Nat) : Int)) (by omega))) rfl rfl rfl (by kernel_rfl) ?_
    refine RunE.one (ok_rem rfl rfl rfl (by omega) (by omega)) rfl rfl rfl (by kernel_rfl) ?_
    refine RunE.one (ok_cmp rfl rfl rfl rfl) rfl rfl rfl (by kernel_rfl) ?_
    refine RunE.one (ok_call rfl rfl (turned_spec (by omega))) rfl rfl rfl (by kernel_rfl) ?_
    refine RunE.one (ok_buildSlice rfl rfl (by decide) rfl (by simp) rfl rfl) rfl rfl rfl (by kernel_rfl) ?_
    refine RunE.nil ⟨_, rfl, ?_⟩
    refine EffM.append 0 rfl rfl rfl rfl rfl rfl rfl hq (by rw [flatRow, trT_len]) (fun z hz => by rw [List.mem_singleton.1 hz]; rfl) (by unfold big; simp; omega) (by unfold big; simp; omega) fun q54 hq54 => ⟨(.cons _ (.cons _ .slnil)), ?_⟩
    refine RunE.one (ok_fieldAddr_eq rfl rfl rfl) rfl rfl rfl (by kernel_rfl) ?_
    refine RunE.nil ⟨_, rfl, ?_⟩
    refine .loc1n 1 (l_store rfl rfl rfl rfl (by first | decide | (simp; done) | (simp; omega))) rfl rfl rfl ?_
    rintro s1 H1 ⟨rfl, rfl⟩
    refine ⟨(.cons _ (.cons _ .slnil)), ?_⟩
    refine RunE.nil ?_
    refine Run.nil ?_
    refine T_region ?_
    refine Run.one (ok_move rfl rfl) rfl rfl rfl ?_
    refine Run.one (ok_ari (z := (s.2.1.length : Int) - 1 - ((k + 1 : Nat) : Int)) rfl rfl rfl (congrArg some (by omega)) (wrap_i64 (by omega) (by omega))) rfl rfl rfl ?_
    refine Run.one (ok_assign rfl rfl) rfl rfl rfl ?_
    refine Run.nil ?_
    exact ⟨k + 1, q54, ⟨by omega, hq54⟩, by omega, ent_h (subG_cons rfl (subG_cons rfl (subG_cons rfl (subG_cons rfl (subG_cons rfl (trivial)))))) (by rw [hsu, List.flatMap_append]; rfl)⟩
   ·have k36 := of_decide_eq_false h36
    obtain rfl : k = s.2.1.length := by omega
    have vt := vok_turn (at0 := at0) hv (by omega) (fun r hr => by have := (hor r hr).1; omega)
    have hct := code_perm (s := s) (t := ((turnF s.1 at0 false), trT s at0 s.2.1.length, s.2.2)) (show ((turnF s.1 at0 false)).length = s.1.length from turnF_length ..) (by show cvxB ((turnF s.1 at0 false).map pv) = _; rw [turnF_map, turn_cvx]) (trT_perm s at0) rfl
    obtain ⟨c, hc⟩ : ∃ c, c = codeF s := ⟨_, rfl⟩
    have hc4 : c = 0 ∨ c = 4 ∨ c = 5 ∨ c = 6 := by rw [hc]; unfold codeF; split; exact .inr (.inl rfl); split; exact .inr (.inr (.inl rfl)); split; exact .inr (.inr (.inr rfl)); exact .inl rfl
    rw [← hc] at hct
    refine T_exit ?_
    refine T_ghost (ghost_slo [slS 6 pc (turnF s.1 at0 false)] [slS 12 queC s.2.2] [] [] [] hq (l := trT s at0 s.2.1.length) (f := rowC) (trT_len ..) rfl (fun _ _ => rfl) (by unfold big; omega)) ?_
    refine T_regionS ?_
    refine Run.one ((show OpOK _ _ _ _ _ (aggS (scC s)) from ok_load_agg rfl rfl rfl rfl)) rfl rfl rfl ?_
    refine Run.one ((ok_call rfl rfl (code_spec hv (by unfold cap; omega))).sub (int_eq (n := c) hc.symm)) rfl rfl rfl ?_
    refine Run.one (ok_assign rfl rfl) rfl rfl rfl ?_
    refine Run.nil ?_
    refine T_seq ?_
    refine T_seqQ (K := fun S1 => Ent S1 ⟨150, [(84, boolS false), (9, intS .i64 c), (5, ptrS (pc pb)), (3, ptrS (scC s))], [⟨some b7, 54, scC ((turnF s.1 at0 false), trT s at0 s.2.1.length, s.2.2), 0⟩], [], (0, false)⟩) ?_ ?_
    ·refine T_draw 27 (by kernel_rfl) ?_
     refine Run.one ((show OpOK _ _ _ _ _ (aggS (scC ((turnF s.1 at0 false), trT s at0 s.2.1.length, s.2.2))) from ok_load_own_agg 0 rfl rfl rfl (by kernel_rfl) rfl)) rfl rfl rfl ?_
     refine Run.one ((ok_call rfl rfl (code_spec vt (by unfold cap; omega))).sub (int_eq (n := c) hct.1)) rfl rfl rfl ?_
     refine Run.one (ok_move rfl rfl) rfl rfl rfl ?_
     refine Run.one ((ok_cmp rfl rfl rfl rfl).sub (bool_eq (c := false) (by simp))) rfl rfl rfl ?_
     refine Run.one (ok_move rfl rfl) rfl rfl rfl ?_
     refine Run.one ((show OpOK _ _ _ _ _ (aggS (scC ((turnF s.1 at0 false), trT s at0 s.2.1.length, s.2.2))) from ok_load_own_agg 0 rfl rfl rfl (by kernel_rfl) rfl)) (gB rfl rfl rfl rfl) rfl rfl ?_
     refine Run.one ((ok_call rfl rfl (tris_spec vt)).sub (int_eq (n := ((tris s : Nat) : Int)) (congrArg Nat.cast hct.2))) (gB rfl rfl rfl rfl) rfl rfl ?_
     refine Run.one ((show OpOK _ _ _ _ _ (aggS (scC s)) from ok_load_agg rfl rfl rfl rfl)) (gB rfl rfl rfl rfl) rfl rfl ?_
     refine Run.one (ok_call rfl rfl (tris_spec hv)) (gB rfl rfl rfl rfl) rfl rfl ?_
     refine Run.one ((ok_cmp rfl rfl rfl rfl).sub (bool_eq (c := false) (by simp))) (gB rfl rfl rfl rfl) rfl rfl ?_
     refine Run.one (ok_pick rfl rfl rfl) rfl rfl rfl ?_
     refine Run.one (ok_move rfl rfl) rfl rfl rfl ?_
     refine Run.one (ok_move rfl rfl) (gB rfl rfl rfl rfl) rfl rfl ?_
     refine Run.oneB (ok_cmp rfl rfl rfl rfl) (gB rfl rfl rfl rfl) rfl rfl (fun h9_13 => ?_) (fun h9_13 => ?_)
     ·have k9_13 := bne_iff_ne.1 h9_13
      iterate 2 refine Run.one (ok_move rfl rfl) (gB rfl rfl rfl rfl) rfl rfl ?_
      refine Run.one (ok_cmp rfl rfl rfl rfl) (gB rfl rfl rfl rfl) rfl rfl ?_
      refine Run.oneB (ok_pick rfl rfl rfl) (gB rfl rfl rfl rfl) rfl rfl (fun h9_17 => ?_) (fun h9_17 => ?_)
      ·have k9_17 := bne_iff_ne.1 h9_17
       iterate 2 refine Run.one (ok_move rfl rfl) (gB rfl rfl rfl rfl) rfl rfl ?_
       refine Run.one (ok_cmp rfl rfl rfl rfl) (gB rfl rfl rfl rfl) rfl rfl ?_
       refine Run.oneB (ok_pick rfl rfl rfl) (gB rfl rfl rfl rfl) rfl rfl (fun h9_21 => ?_) (fun h9_21 => ?_)
       ·have k9_21 := bne_iff_ne.1 h9_21
        iterate 2 refine Run.one (ok_move rfl rfl) (gB rfl rfl rfl rfl) rfl rfl ?_
        refine Run.one ((ok_cmp rfl rfl rfl rfl).sub (bool_eq (c := false) (by rw [bne_eq_false_iff_eq]; omega))) (gB rfl rfl rfl rfl) rfl rfl ?_
        refine Run.one (ok_pick rfl rfl rfl) (gB rfl rfl rfl rfl) rfl rfl ?_
        refine Run.one (ok_pick rfl rfl rfl) rfl rfl rfl ?_
        iterate 2 refine Run.nil ?_
        exact ent_h (subG_cons rfl (subG_cons rfl (subG_cons rfl (subG_cons rfl (trivial))))) rfl
       ·have k9_21 := bne_eq_false_iff_eq.1 h9_21
        refine Run.one (ok_move rfl rfl) (gB rfl rfl rfl rfl) rfl rfl ?_
        iterate 2 refine Run.no (gB rfl rfl rfl rfl) rfl rfl ?_
        refine Run.one (ok_pick rfl rfl rfl) (gB rfl rfl rfl rfl) rfl rfl ?_
        refine Run.one (ok_pick rfl rfl rfl) rfl rfl rfl ?_
        iterate 2 refine Run.nil ?_
        exact ent_h (subG_cons rfl (subG_cons rfl (subG_cons rfl (subG_cons rfl (trivial))))) rfl
      ·have k9_17 := bne_eq_false_iff_eq.1 h9_17
       refine Run.one (ok_move rfl rfl) (gB rfl rfl rfl rfl) rfl rfl ?_
       iterate 2 refine Run.no (gB rfl rfl rfl rfl) rfl rfl ?_
       refine Run.one (ok_pick rfl rfl rfl) (gB rfl rfl rfl rfl) rfl rfl ?_
       refine Run.one (ok_move rfl rfl) (gB rfl rfl rfl rfl) rfl rfl ?_
       iterate 2 refine Run.no (gB rfl rfl rfl rfl) rfl rfl ?_
       refine Run.one (ok_pick rfl rfl rfl) (gB rfl rfl rfl rfl) rfl rfl ?_
       refine Run.one (ok_pick rfl rfl rfl) rfl rfl rfl ?_
       iterate 2 refine Run.nil ?_
       exact ent_h (subG_cons rfl (subG_cons rfl (subG_cons rfl (subG_cons rfl (trivial))))) rfl
     ·have k9_13 := bne_eq_false_iff_eq.1 h9_13
      refine Run.one (ok_move rfl rfl) (gB rfl rfl rfl rfl) rfl rfl ?_
      iterate 2 refine Run.no (gB rfl rfl rfl rfl) rfl rfl ?_
      refine Run.one (ok_pick rfl rfl rfl) (gB rfl rfl rfl rfl) rfl rfl ?_
      refine Run.one (ok_move rfl rfl) (gB rfl rfl rfl rfl) rfl rfl ?_
      iterate 2 refine Run.no (gB rfl rfl rfl rfl) rfl rfl ?_
      refine Run.one (ok_pick rfl rfl rfl) (gB rfl rfl rfl rfl) rfl rfl ?_
      refine Run.one (ok_move rfl rfl) (gB rfl rfl rfl rfl) rfl rfl ?_
      iterate 2 refine Run.no (gB rfl rfl rfl rfl) rfl rfl ?_
      refine Run.one (ok_pick rfl rfl rfl) (gB rfl rfl rfl rfl) rfl rfl ?_
      refine Run.one (ok_pick rfl rfl rfl) rfl rfl rfl ?_
      iterate 2 refine Run.nil ?_
      exact ent_h (subG_cons rfl (subG_cons rfl (subG_cons rfl (subG_cons rfl (trivial))))) rfl
    ·intro S1 hS1
     refine T_pre hS1 ?_
     refine T_cond rfl rfl (fun h84 => ?_) (fun h84 => ?_)
     ·exact absurd h84 (by decide)
     ·refine T_skip ?_
      refine T_regionS ?_
      refine Run.alloc rfl rfl rfl rfl rfl fun b10 => ?_
      refine Run.nil ?_
      refine T_regionS ?_
      refine Run.one (ok_fieldAddr rfl rfl rfl) rfl rfl rfl ?_
      refine Run.one (ok_load rfl rfl) rfl rfl rfl ?_
      refine Run.one (ok_fieldAddr_eq rfl rfl rfl) rfl rfl rfl ?_
      refine Run.store 0 rfl rfl rfl rfl rfl rfl rfl rfl rfl ?_
      refine Run.nil ?_
      refine T_seq ?_
      refine T_regionS ?_
      refine Run.one (ok_assign rfl rfl) rfl rfl rfl ?_
      refine Run.nil ?_
      refine T_block ?_
      refine T_ghost (ghost_row 30 6) ?_
      refine T_loop2 (fun (g : Nat) (q : Option (Nat × Nat)) => ⟨150, [(11, intS .i64 (g : Nat)), (10, eqS (.pointer (some ⟨b10, 0, none⟩))), (9, intS .i64 c), (5, ptrS (pc pb)), (3, ptrS (scC s))], [rowE q 30 6 g ((mvA (pv pb) (s.1.take g)).flatMap pc), ⟨some b10, 54, [eqS (rowV q g), eqS (.slice none 0 0), slS 12 queC s.2.2], 0⟩, ⟨some b7, 54, scC ((turnF s.1 at0 false), trT s at0 s.2.1.length, s.2.2), 0⟩], [], (0, false)⟩) (fun g q => g ≤ s.1.length ∧ rowOk q g) (fun g _ => s.1.length - g) 0 none ⟨Nat.zero_le _, rfl⟩ (ent_h (subG_cons rfl (subG_cons rfl (subG_cons rfl (subG_cons rfl (subG_cons rfl (trivial)))))) rfl) ?_
      rintro g q ⟨hg, hq⟩
      refine T_seq ?_
      refine T_regionS ?_
      refine Run.one (ok_move rfl rfl) rfl rfl rfl ?_
      refine Run.one (ok_fieldAddr rfl rfl rfl) rfl rfl rfl ?_
      refine Run.one (ok_load rfl rfl) rfl rfl rfl ?_
      refine Run.one (ok_len rfl rfl) rfl rfl rfl ?_
      refine Run.one (ok_cmp rfl rfl rfl rfl) rfl rfl rfl ?_
      refine Run.nil ?_
      refine T_cond rfl rfl (fun h92 => ?_) (fun h92 => ?_)
      ·have k92 := of_decide_eq_true h92
       obtain ⟨p, hp⟩ : ∃ p, s.1[g]? = some p := ⟨_, List.getElem?_eq_getElem (by omega)⟩
       have hpo := hv.rob p (List.mem_of_getElem? hp)
       have hp24 := tsz_six hpo
       have hsu : mvA (pv pb) (s.1.take (g + 1)) = mvA (pv pb) (s.1.take g) ++ [rep (add2 (pv p) (pv pb))] := mv_succ _ hp
       have hml : (mvA (pv pb) (s.1.take g)).length = g := by unfold mvA; rw [List.length_map, List.length_take]; omega
       refine T_skip ?_
       refine T_seq ?_
       refine T_block ?_
       refine T_drawM 13 [10, 12] _ (by kernel_rfl) (.cons _ (.cons _ (.cons_cons _ .slnil))) ?_
       refine RunE.one (ok_fieldAddr_eq rfl rfl rfl) rfl rfl rfl (by kernel_rfl) ?_
       refine RunE.one (ok_load_own 1 rfl rfl rfl rfl) rfl rfl rfl (by kernel_rfl) ?_
       refine RunE.one (ok_fieldAddr rfl rfl rfl) rfl rfl rfl (by kernel_rfl) ?_
       refine RunE.one (ok_load rfl rfl) rfl rfl rfl (by kernel_rfl) ?_
       refine RunE.one (ok_move rfl rfl) rfl rfl rfl (by kernel_rfl) ?_
       refine RunE.one (ok_indexAddr rfl rfl rfl (by omega) (y := p) (hp)) rfl rfl rfl (by kernel_rfl) ?_
       refine RunE.one ((show OpOK _ _ _ _ _ (aggS (pc (p))) from ok_load_agg rfl rfl rfl rfl)) rfl rfl rfl (by kernel_rfl) ?_
       refine RunE.one ((show OpOK _ _ _ _ _ (aggS (pc (pb))) from ok_load_agg rfl rfl rfl rfl)) rfl rfl rfl (by kernel_rfl) ?_
       refine RunE.one (ok_call rfl rfl (addP (p := p) (q := pb) (lim_pt hpo) hlb (by omega))) rfl rfl rfl (by kernel_rfl) ?_
       refine RunE.one (ok_buildSlice rfl rfl (by decide) rfl (by simp) (by kernel_rfl) (by kernel_rfl)) rfl rfl rfl (by kernel_rfl) ?_
       refine RunE.nil ⟨_, rfl, ?_⟩
       refine EffM.append 0 rfl rfl rfl rfl rfl rfl rfl hq (by rw [flatPc, hml]) (fun z hz => by rw [List.mem_singleton.1 hz]; rfl) (by unfold big; simp; omega) (by unfold big; simp; omega) fun q105 hq105 => ⟨(.cons _ (.cons _ (.cons_cons _ .slnil))), ?_⟩
       refine RunE.one (ok_fieldAddr_eq rfl rfl rfl) rfl rfl rfl (by kernel_rfl) ?_
       refine RunE.nil ⟨_, rfl, ?_⟩
       refine .loc1n 1 (l_store rfl rfl rfl rfl (by first | decide | (simp; done) | (simp; omega))) rfl rfl rfl ?_
       rintro s1 H1 ⟨rfl, rfl⟩
       refine ⟨(.cons _ (.cons _ (.cons_cons _ .slnil))), ?_⟩
       refine RunE.nil ?_
       refine Run.nil ?_
       refine T_region ?_
       refine Run.one (ok_move rfl rfl) rfl rfl rfl ?_
       refine Run.one (ok_ari (z := ((g + 1 : Nat) : Int)) rfl rfl rfl (congrArg some (by omega)) (wrap_i64 (by omega) (by omega))) rfl rfl rfl ?_
       refine Run.one (ok_assign rfl rfl) rfl rfl rfl ?_
       refine Run.nil ?_
       exact ⟨g + 1, q105, ⟨by omega, hq105⟩, by omega, ent_h (subG_cons rfl (subG_cons rfl (subG_cons rfl (subG_cons rfl (subG_cons rfl (trivial)))))) (by rw [hsu, List.flatMap_append]; rfl)⟩
      ·have k92 := of_decide_eq_false h92
       obtain rfl : g = s.1.length := by omega
       rw [List.take_length]
       have hml : (mvA (pv pb) s.1).length = s.1.length := by unfold mvA; rw [List.length_map]
       refine T_exit ?_
       refine T_seq ?_
       refine T_ghost (ghost_slo [] [eqS (.slice none 0 0), slS 12 queC s.2.2] [] [] [_] hq (l := mvA (pv pb) s.1) (f := pc) hml rfl (fun _ _ => rfl) (by unfold big; omega)) ?_
       refine T_regionS ?_
       refine Run.one (ok_assign rfl rfl) rfl rfl rfl ?_
       refine Run.nil ?_
       refine T_block ?_
       refine T_ghost (ghost_row 22 1) ?_
       refine T_loop2 (fun (h : Nat) (q : Option (Nat × Nat)) => ⟨150, [(12, intS .i64 (h : Nat)), (10, eqS (.pointer (some ⟨b10, 0, none⟩))), (9, intS .i64 c), (5, ptrS (pc pb)), (3, ptrS (scC s))], [rowE q 22 1 h (((s.2.1.take h).map (mvS (pv pb))).flatMap rowC), ⟨some b10, 54, [slS 6 pc (mvA (pv pb) s.1), eqS (rowV q h), slS 12 queC s.2.2], 0⟩, ⟨some b7, 54, scC ((turnF s.1 at0 false), trT s at0 s.2.1.length, s.2.2), 0⟩], [], (0, false)⟩) (fun h q => h ≤ s.2.1.length ∧ rowOk q h) (fun h _ => s.2.1.length - h) 0 none ⟨Nat.zero_le _, rfl⟩ (ent_h (subG_cons rfl (subG_cons rfl (subG_cons rfl (subG_cons rfl (subG_cons rfl (trivial)))))) rfl) ?_
       rintro h q ⟨hh, hq⟩
       refine T_seq ?_
       refine T_regionS ?_
       refine Run.one (ok_move rfl rfl) rfl rfl rfl ?_
       refine Run.one (ok_fieldAddr rfl rfl rfl) rfl rfl rfl ?_
       refine Run.one (ok_load rfl rfl) rfl rfl rfl ?_
       refine Run.one (ok_len rfl rfl) rfl rfl rfl ?_
       refine Run.one (ok_cmp rfl rfl rfl rfl) rfl rfl rfl ?_
       refine Run.nil ?_
       refine T_cond rfl rfl (fun h111 => ?_) (fun h111 => ?_)
       ·have k111 := of_decide_eq_true h111
        obtain ⟨r, hr⟩ : ∃ r, s.2.1[h]? = some r := ⟨_, List.getElem?_eq_getElem (by omega)⟩
        have hrm := List.mem_of_getElem? hr
        have hr8 := (hor r hrm).1
        have hsu : (s.2.1.take (h + 1)).map (mvS (pv pb)) = (s.2.1.take h).map (mvS (pv pb)) ++ [mvS (pv pb) r] := mv_succ _ hr
        have hol2 : ((s.2.1.take h).map (mvS (pv pb))).length = h := by rw [List.length_map, List.length_take]; omega
        refine T_skip ?_
        refine T_seq ?_
        refine T_block ?_
        refine T_regionS ?_
        refine Run.one (ok_assign rfl rfl) rfl rfl rfl ?_
        refine Run.nil ?_
        refine T_seq ?_
        refine T_regionS ?_
        refine Run.one (ok_assign rfl rfl) rfl rfl rfl ?_
        refine Run.nil ?_
        refine T_block ?_
        refine T_ghost (ghost_row 30 6) ?_
        refine T_loop2 (fun (j : Nat) (qi : Option (Nat × Nat)) => ⟨150, [(14, intS .i64 (j : Nat)), (13, eqS (rowV qi j)), (12, intS .i64 (h : Nat)), (10, eqS (.pointer (some ⟨b10, 0, none⟩))), (9, intS .i64 c), (5, ptrS (pc pb)), (3, ptrS (scC s))], rowE qi 30 6 j ((mvS (pv pb) (r.take j)).flatMap pc) :: [rowE q 22 1 h (((s.2.1.take h).map (mvS (pv pb))).flatMap rowC), ⟨some b10, 54, [slS 6 pc (mvA (pv pb) s.1), eqS (rowV q h), slS 12 queC s.2.2], 0⟩, ⟨some b7, 54, scC ((turnF s.1 at0 false), trT s at0 s.2.1.length, s.2.2), 0⟩], [], (0, false)⟩) (fun j qi => j ≤ r.length ∧ rowOk qi j) (fun j _ => r.length - j) 0 none ⟨Nat.zero_le _, rfl⟩ (ent_h (subG_cons rfl (subG_cons rfl (subG_cons rfl (subG_cons rfl (subG_cons rfl (subG_cons rfl (subG_cons rfl (trivial)))))))) rfl) ?_
        rintro j qi ⟨hj, hqi⟩
        refine T_seq ?_
        refine T_regionS ?_
        refine Run.one (ok_move rfl rfl) rfl rfl rfl ?_
        refine Run.one (ok_fieldAddr rfl rfl rfl) rfl rfl rfl ?_
        refine Run.one (ok_load rfl rfl) rfl rfl rfl ?_
        refine Run.one (ok_move rfl rfl) rfl rfl rfl ?_
        refine Run.one (ok_indexAddr rfl rfl rfl (by omega) (y := r) (hr)) rfl rfl rfl ?_
        refine Run.one (ok_load rfl rfl) rfl rfl rfl ?_
        refine Run.one (ok_len rfl rfl) rfl rfl rfl ?_
        refine Run.one (ok_cmp rfl rfl rfl rfl) rfl rfl rfl ?_
        refine Run.nil ?_
        refine T_cond rfl rfl (fun h121 => ?_) (fun h121 => ?_)
        ·have k121 := of_decide_eq_true h121
         obtain ⟨p, hp⟩ : ∃ p, r[j]? = some p := ⟨_, List.getElem?_eq_getElem (by omega)⟩
         have hpo := hv.obs r hrm p (List.mem_of_getElem? hp)
         have hp24 := tsz_six hpo
         have hsj : mvS (pv pb) (r.take (j + 1)) = mvS (pv pb) (r.take j) ++ [rep (sub2 (pv p) (pv pb))] := mv_succ _ hp
         have hml2 : (mvS (pv pb) (r.take j)).length = j := by unfold mvS; rw [List.length_map, List.length_take]; omega
         refine T_skip ?_
         refine T_seq ?_
         refine T_block ?_
         refine T_drawM 13 [12] _ (by kernel_rfl) (.cons _ (.cons_cons _ (.cons_cons _ (.cons_cons _ .slnil)))) ?_
         refine RunE.one (ok_move rfl rfl) rfl rfl rfl (by kernel_rfl) ?_
         refine RunE.one (ok_fieldAddr rfl rfl rfl) rfl rfl rfl (by kernel_rfl) ?_
         refine RunE.one (ok_load rfl rfl) rfl rfl rfl (by kernel_rfl) ?_
         refine RunE.one (ok_move rfl rfl) rfl rfl rfl (by kernel_rfl) ?_
         refine RunE.one (ok_indexAddr rfl rfl rfl (by omega) (y := r) (hr)) rfl rfl rfl (by kernel_rfl) ?_
         refine RunE.one (ok_load rfl rfl) rfl rfl rfl (by kernel_rfl) ?_
         refine RunE.one (ok_move rfl rfl) rfl rfl rfl (by kernel_rfl) ?_
         refine RunE.one (ok_indexAddr rfl rfl rfl (by omega) (y := p) (hp)) rfl rfl rfl (by kernel_rfl) ?_
         refine RunE.one ((show OpOK _ _ _ _ _ (aggS (pc (p))) from ok_load_agg rfl rfl rfl rfl)) rfl rfl rfl (by kernel_rfl) ?_
         refine RunE.one ((show OpOK _ _ _ _ _ (aggS (pc (pb))) from ok_load_agg rfl rfl rfl rfl)) rfl rfl rfl (by kernel_rfl) ?_
         refine RunE.one (ok_call rfl rfl (subP (p := p) (q := pb) (lim_pt hpo) hlb (by omega))) rfl rfl rfl (by kernel_rfl) ?_
         refine RunE.one (ok_buildSlice rfl rfl (by decide) rfl (by simp) (by kernel_rfl) (by kernel_rfl)) rfl rfl rfl (by kernel_rfl) ?_
         refine RunE.nil ⟨_, rfl, ?_⟩
         refine EffM.append 0 rfl rfl rfl rfl rfl rfl rfl hqi (by rw [flatPc, hml2]) (fun z hz => by rw [List.mem_singleton.1 hz]; rfl) (by unfold big; simp; omega) (by unfold big; simp; omega) fun q136 hq136 => ⟨(.cons _ (.cons_cons _ (.cons_cons _ (.cons_cons _ .slnil)))), ?_⟩
         refine RunE.nil ?_
         refine Run.one (ok_assign rfl rfl) rfl rfl rfl ?_
         refine Run.nil ?_
         refine T_region ?_
         refine Run.one (ok_move rfl rfl) rfl rfl rfl ?_
         refine Run.one (ok_ari (z := ((j + 1 : Nat) : Int)) rfl rfl rfl (congrArg some (by omega)) (wrap_i64 (by omega) (by omega))) rfl rfl rfl ?_
         refine Run.one (ok_assign rfl rfl) rfl rfl rfl ?_
         refine Run.nil ?_
         exact ⟨j + 1, q136, ⟨by omega, hq136⟩, by omega, ent_h (subG_cons rfl (subG_cons rfl (subG_cons rfl (subG_cons rfl (subG_cons rfl (subG_cons rfl (subG_cons rfl (trivial)))))))) (by rw [hsj, List.flatMap_append]; rfl)⟩
        ·have k121 := of_decide_eq_false h121
         obtain rfl : j = r.length := by omega
         rw [List.take_length]
         have hml3 : (mvS (pv pb) r).length = r.length := by unfold mvS; rw [List.length_map]
         refine T_exit ?_
         refine T_ghost (ghost_sl 0 13 rfl rfl hqi (l := mvS (pv pb) r) (f := pc) hml3 rfl (fun _ _ => rfl) (by unfold big; omega)) ?_
         refine T_region ?_
         refine Run.one (ok_fieldAddr_eq rfl rfl rfl) rfl rfl rfl ?_
         refine Run.one (ok_load_own 1 rfl rfl rfl rfl) rfl rfl rfl ?_
         refine Run.one (ok_move rfl rfl) rfl rfl rfl ?_
         refine Run.one (ok_buildSlice rfl rfl (by decide) rfl (by simp) rfl rfl) rfl rfl rfl ?_
         refine Run.append 0 rfl rfl rfl rfl rfl rfl rfl rfl hq (by rw [flatRow, hol2]) (fun z hz => by rw [List.mem_singleton.1 hz]; rfl) (by unfold big; simp; omega) (by unfold big; simp; omega) fun q141 hq141 => ?_
         refine Run.one (ok_fieldAddr_eq rfl rfl rfl) rfl rfl rfl ?_
         refine Run.store 1 rfl rfl rfl rfl rfl rfl rfl rfl rfl ?_
         refine Run.nil ?_
         refine T_region ?_
         refine Run.one (ok_move rfl rfl) rfl rfl rfl ?_
         refine Run.one (ok_ari (z := ((h + 1 : Nat) : Int)) rfl rfl rfl (congrArg some (by omega)) (wrap_i64 (by omega) (by omega))) rfl rfl rfl ?_
         refine Run.one (ok_assign rfl rfl) rfl rfl rfl ?_
         refine Run.nil ?_
         exact ⟨h + 1, q141, ⟨by omega, hq141⟩, by omega, ent_h (subG_cons rfl (subG_cons rfl (subG_cons rfl (subG_cons rfl (subG_cons rfl (trivial)))))) (by rw [hsu, List.flatMap_append]; rfl)⟩
       ·have k111 := of_decide_eq_false h111
        obtain rfl : h = s.2.1.length := by omega
        rw [List.take_length]
        have hcm := mv_code s (pv pb)
        have vm := vok_mv hv hb80
        rw [← hc] at hcm
        refine T_exit ?_
        refine T_ghost (ghost_slo [slS 6 pc (mvA (pv pb) s.1)] [slS 12 queC s.2.2] [] [] [_] hq (l := s.2.1.map (mvS (pv pb))) (f := rowC) (by rw [List.length_map]) rfl (fun _ _ => rfl) (by unfold big; omega)) ?_
        refine T_regionS ?_
        refine Run.one ((show OpOK _ _ _ _ _ (aggS (scC (mvA (pv pb) s.1, s.2.1.map (mvS (pv pb)), s.2.2))) from ok_load_own_agg 0 rfl rfl rfl (by kernel_rfl) rfl)) rfl rfl rfl ?_
        refine Run.one ((ok_call rfl rfl (code_spec vm (by unfold cap; omega))).sub (int_eq (n := c) hcm)) rfl rfl rfl ?_
        refine Run.one (ok_move rfl rfl) rfl rfl rfl ?_
        refine Run.one ((ok_cmp rfl rfl rfl rfl).sub (bool_eq (c := true) (by simp))) rfl rfl rfl ?_
        refine Run.one (ok_move rfl rfl) rfl rfl rfl ?_
        refine Run.one (ok_call rfl rfl wakes14_spec) (gB rfl rfl rfl rfl) rfl rfl ?_
        refine Run.one (ok_pick rfl rfl rfl) rfl rfl rfl ?_
        refine Run.one (ok_assign rfl rfl) rfl rfl rfl ?_
        refine Run.nil ?_
        refine T_ret ?_
        exact ⟨_, [], .one (.tmp rfl), List.nil_sublist _, rfl, rfl⟩
end Go.Proofs
