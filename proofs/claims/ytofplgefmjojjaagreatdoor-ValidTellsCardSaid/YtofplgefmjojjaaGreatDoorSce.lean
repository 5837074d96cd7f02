/- scene: the reader of a text: what it takes over, the robot, an obstacle, a query. -/
import Derived.Test.YtofplgefmjojjaaGreatDoorSca
import Derived.Test.YtofplgefmjojjaaGreatDoorSv8
namespace Num
def worF (k c : Int) : Int := if k = 0 ∨ c < k then c else k
end Num
namespace Go.Proofs
open Go Go.Sv Num
variable {G : Imm}
theorem worse_spec {b : Nat} {s0 s1 s2 : SV} {k c : Int} : CallSpec Tryz.prog G 201 [eqS (.pointer (some ⟨b, 0, none⟩)), intS .i64 c] [⟨some b, 148, [s0, s1, s2, intS .i64 k], 0⟩] (fun v H' => v = tupS [] ∧ H' = [⟨some b, 148, [s0, s1, s2, intS .i64 (worF k c)], 0⟩]) := by
 refine zs Tryz.func201 ?_;refine zr ?_;(iterate 4 refine zz ?_)
 refine Run.oneB (ok_cmp rfl rfl rfl rfl) rfl rfl rfl (fun h0_4 => ?_) (fun h0_4 => ?_)
 ·have k0_4 := beq_iff_eq.1 h0_4
  refine zz ?_;(iterate 6 refine zq ?_);refine zz ?_;refine zzn ?_;refine T_condT rfl rfl ?_;refine T_region ?_;(iterate 4 refine zz ?_);refine zw ?_;refine zzn ?_
  exact ⟨_, [_], .none, List.Sublist.refl _, rfl, by rw [show worF k c = c from if_pos (.inl k0_4)]; rfl⟩
 ·have k0_4 := beq_eq_false_iff_ne.1 h0_4
  (iterate 8 refine zz ?_);refine zzn ?_;refine zzc (fun h16 => ?_) fun h16 => ?_
  ·have k16 := of_decide_eq_true h16
   refine T_region ?_;(iterate 4 refine zz ?_);refine zw ?_;refine zzn ?_
   exact ⟨_, [_], .none, List.Sublist.refl _, rfl, by rw [show worF k c = c from if_pos (.inr k16)]; rfl⟩
  ·have k16 := of_decide_eq_false h16
   refine T_skip ?_
   exact ⟨_, [_], .none, List.Sublist.refl _, rfl, by rw [show worF k c = k from if_neg (fun h => h.elim k0_4 k16)]⟩
theorem robot_nil {b : Nat} {s1 s2 s3 : SV} {l : List QP} : CallSpec Tryz.prog G 159 [eqS (.pointer (some ⟨b, 0, none⟩)), slS 6 pcan l] [⟨some b, 148, [eqS (.slice none 0 0), s1, s2, s3], 0⟩] (fun v H' => v = boolS true ∧ H' = [⟨some b, 148, [slS 6 pcan l, s1, s2, s3], 0⟩]) := by
 refine zs Tryz.func159 ?_;refine zr ?_;refine zz ?_;refine zzn ?_;refine T_seq ?_;refine zr ?_;(iterate 5 refine zz ?_);refine zo (ok_neq_sl0 rfl rfl) ?_;refine zzn ?_;refine T_condF rfl rfl ?_;refine T_skip ?_;refine zr ?_;(iterate 5 refine zz ?_);refine zw ?_;refine zx ?_;refine zz ?_;refine zzn ?_;refine T_ret ?_
 exact ⟨_, [_], .one (.tmp rfl), List.Sublist.refl _, rfl, rfl⟩
theorem robot_some {b : Nat} {s1 s2 s3 : SV} {l rob : List QP} (hr : rob ≠ []) : CallSpec Tryz.prog G 159 [eqS (.pointer (some ⟨b, 0, none⟩)), slS 6 pcan l] [⟨some b, 148, [slS 6 pcan rob, s1, s2, s3], 0⟩] (fun v H' => v = boolS false ∧ H' = [⟨some b, 148, [slS 6 pcan rob, s1, s2, s3], 0⟩]) := by
 refine zs Tryz.func159 ?_;refine zr ?_;refine zz ?_;refine zzn ?_;refine T_seq ?_;refine zr ?_;(iterate 5 refine zz ?_);refine zo (ok_neq_sl rfl rfl hr) ?_;refine zzn ?_;refine T_condT rfl rfl ?_;refine zr ?_;refine zz ?_;refine zzn ?_;refine T_ret ?_
 exact ⟨_, [_], .one (.tmp rfl), List.Sublist.refl _, rfl, rfl⟩
theorem obst_nil {b : Nat} {s1 s2 s3 : SV} {l : List QP} : CallSpec Tryz.prog G 160 [eqS (.pointer (some ⟨b, 0, none⟩)), slS 6 pcan l] [⟨some b, 148, [eqS (.slice none 0 0), s1, s2, s3], 0⟩] (fun v H' => v = boolS false ∧ H' = [⟨some b, 148, [eqS (.slice none 0 0), s1, s2, s3], 0⟩]) := by
 refine zs Tryz.func160 ?_;refine zr ?_;refine zz ?_;refine zzn ?_;refine T_seq ?_;refine zr ?_;(iterate 5 refine zz ?_);refine zo (ok_eql_sl0 rfl rfl) ?_;refine zz ?_;(iterate 7 refine zq ?_);refine zz ?_;refine zzn ?_;refine T_condT rfl rfl ?_;refine zr ?_;refine zz ?_;refine zzn ?_;refine T_ret ?_
 exact ⟨_, [_], .one (.tmp rfl), List.Sublist.refl _, rfl, rfl⟩
theorem obst_que {b : Nat} {s1 s3 : SV} {l rob : List QP} {qq : Option (Nat × Nat)} {n : Nat} (hr : rob ≠ []) (hqq : rowOk qq n) (hn : n ≠ 0) : CallSpec Tryz.prog G 160 [eqS (.pointer (some ⟨b, 0, none⟩)), slS 6 pcan l] [⟨some b, 148, [slS 6 pcan rob, s1, eqS (rowV qq n), s3], 0⟩] (fun v H' => v = boolS false ∧ H' = [⟨some b, 148, [slS 6 pcan rob, s1, eqS (rowV qq n), s3], 0⟩]) := by
 refine zs Tryz.func160 ?_;refine zr ?_;refine zz ?_;refine zzn ?_;refine T_seq ?_;refine zr ?_;(iterate 5 refine zz ?_);refine zo (ok_eql_sl rfl rfl hr) ?_;(iterate 6 refine zz ?_);refine zo (ok_len_row rfl rfl hqq) ?_;refine zo ((ok_cmp rfl rfl rfl rfl).sub (bool_eq (c := true) (decide_eq_true (by omega)))) ?_;refine zz ?_;refine zzn ?_;refine T_condT rfl rfl ?_;refine zr ?_;refine zz ?_;refine zzn ?_;refine T_ret ?_
 exact ⟨_, [_], .one (.tmp rfl), List.Sublist.refl _, rfl, rfl⟩
theorem obst_ok {b : Nat} {s3 : SV} {l rob : List QP} {obs : List (List QP)} {qo qq : Option (Nat × Nat)} (hr : rob ≠ []) (hq : rowOk qo obs.length) (hqq : rowOk qq 0) (hol : obs.length ≤ 2000000000) : CallSpec Tryz.prog G 160 [eqS (.pointer (some ⟨b, 0, none⟩)), slS 6 pcan l] [⟨some b, 148, [slS 6 pcan rob, eqS (rowV qo obs.length), eqS (rowV qq 0), s3], 0⟩, rowE qo 22 1 obs.length (obs.flatMap qrowC)] (fun v H' => ∃ qo', rowOk qo' (obs ++ [l]).length ∧ v = boolS true ∧ H' = [⟨some b, 148, [slS 6 pcan rob, eqS (rowV qo' (obs ++ [l]).length), eqS (rowV qq 0), s3], 0⟩, rowE qo' 22 1 (obs ++ [l]).length ((obs ++ [l]).flatMap qrowC)]) := by
 refine zs Tryz.func160 ?_;refine zr ?_;refine zz ?_;refine zzn ?_;refine T_seq ?_;refine zr ?_;(iterate 5 refine zz ?_);refine zo (ok_eql_sl rfl rfl hr) ?_;(iterate 6 refine zz ?_);refine zo (ok_len_row rfl rfl hqq) ?_;refine zo ((ok_cmp rfl rfl rfl rfl).sub (bool_eq (c := false) (decide_eq_false (by omega)))) ?_;refine zz ?_;refine zzn ?_;refine T_condF rfl rfl ?_;refine T_skip ?_;refine zr ?_;(iterate 7 refine zz ?_);refine zo (ok_buildSlice rfl rfl (by decide) rfl (by simp) rfl rfl) ?_;refine Run.append 1 rfl rfl rfl rfl rfl rfl rfl rfl hq (by rw [flat_qrow]) (fun z hz => by rw [List.mem_singleton.1 hz]; rfl) (by unfold big; simp; omega) (by unfold big; simp; omega) fun q28 hq28 => ?_;(iterate 3 refine zz ?_);refine zw ?_;refine zx ?_;refine zz ?_;refine zzn ?_;refine T_ret ?_
 exact ⟨_, [_, _], .one (.tmp rfl), List.Sublist.refl _, q28, by rw [List.length_append]; exact hq28, rfl, by rw [List.length_append, List.flatMap_append]; rfl⟩
theorem query_nil {b : Nat} {s1 s2 s3 : SV} {l : List QP} : CallSpec Tryz.prog G 161 [eqS (.pointer (some ⟨b, 0, none⟩)), slS 6 pcan l] [⟨some b, 148, [eqS (.slice none 0 0), s1, s2, s3], 0⟩] (fun v H' => v = boolS false ∧ H' = [⟨some b, 148, [eqS (.slice none 0 0), s1, s2, s3], 0⟩]) := by
 refine zs Tryz.func161 ?_;refine zr ?_;refine zz ?_;refine zzn ?_;refine T_seq ?_;refine zr ?_;(iterate 5 refine zz ?_);refine zo (ok_eql_sl0 rfl rfl) ?_;refine zz ?_;(iterate 3 refine zq ?_);refine zz ?_;refine zzn ?_;refine T_condT rfl rfl ?_;refine zr ?_;refine zz ?_;refine zzn ?_;refine T_ret ?_
 exact ⟨_, [_], .one (.tmp rfl), List.Sublist.refl _, rfl, rfl⟩
theorem query_len {b : Nat} {s1 s2 s3 : SV} {l rob : List QP} (hr : rob ≠ []) (hl : l.length ≠ 2) : CallSpec Tryz.prog G 161 [eqS (.pointer (some ⟨b, 0, none⟩)), slS 6 pcan l] [⟨some b, 148, [slS 6 pcan rob, s1, s2, s3], 0⟩] (fun v H' => v = boolS false ∧ H' = [⟨some b, 148, [slS 6 pcan rob, s1, s2, s3], 0⟩]) := by
 refine zs Tryz.func161 ?_;refine zr ?_;refine zz ?_;refine zzn ?_;refine T_seq ?_;refine zr ?_;(iterate 5 refine zz ?_);refine zo (ok_eql_sl rfl rfl hr) ?_;(iterate 3 refine zz ?_);refine zo ((ok_cmp rfl rfl rfl rfl).sub (bool_eq (c := true) (bne_iff_ne.2 (by omega)))) ?_;refine zz ?_;refine zzn ?_;refine T_condT rfl rfl ?_;refine zr ?_;refine zz ?_;refine zzn ?_;refine T_ret ?_
 exact ⟨_, [_], .one (.tmp rfl), List.Sublist.refl _, rfl, rfl⟩
theorem query_ok {X : HE} {b : Nat} {s1 s3 : SV} {rob : List QP} {p1 p2 : QP} {que : List (QP × QP)} {qq : Option (Nat × Nat)} (hr : rob ≠ []) (hq : rowOk qq que.length) (hol : que.length ≤ 2000000000) : CallSpec Tryz.prog G 161 [eqS (.pointer (some ⟨b, 0, none⟩)), slS 6 pcan [p1, p2]] [⟨some b, 148, [slS 6 pcan rob, s1, eqS (rowV qq que.length), s3], 0⟩, X, rowE qq 69 12 que.length (que.flatMap qqueC)] (fun v H' => ∃ qq', rowOk qq' (que ++ [(p1, p2)]).length ∧ v = boolS true ∧ H' = [⟨some b, 148, [slS 6 pcan rob, s1, eqS (rowV qq' (que ++ [(p1, p2)]).length), s3], 0⟩, X, rowE qq' 69 12 (que ++ [(p1, p2)]).length ((que ++ [(p1, p2)]).flatMap qqueC)]) := by
 refine zs Tryz.func161 ?_;refine zr ?_;refine zz ?_;refine zzn ?_;refine T_seq ?_;refine zr ?_;(iterate 5 refine zz ?_);refine zo (ok_eql_sl rfl rfl hr) ?_;(iterate 3 refine zz ?_);refine zo ((ok_cmp rfl rfl rfl rfl).sub (bool_eq (c := false) (by simp))) ?_;refine zz ?_;refine zzn ?_;refine T_condF rfl rfl ?_;refine T_skip ?_;refine T_drawMS 19 [14, 18] _ (by kernel_rfl) (.cons _ (.cons_cons _ (.cons _ .slnil))) ?_;refine RunE.lat (ok_move rfl rfl) rfl rfl rfl ?_;refine RunE.one (ok_move rfl rfl) rfl rfl rfl (by kernel_rfl) ?_;refine RunE.one (ok_nilCheck_eq rfl rfl) rfl rfl rfl (by kernel_rfl) ?_;(iterate 2 refine RunE.one (ok_fieldAddr_eq rfl rfl rfl) rfl rfl rfl (by kernel_rfl) ?_);refine RunE.one (ok_load_own 0 rfl rfl rfl rfl) rfl rfl rfl (by kernel_rfl) ?_;refine RunE.one (ok_move rfl rfl) rfl rfl rfl (by kernel_rfl) ?_;refine RunE.one (ok_indexAddr rfl rfl rfl (by omega) (y := p1) (rfl)) rfl rfl rfl (by kernel_rfl) ?_;refine RunE.one ((show OpOK _ _ _ _ _ (aggS (pcan p1)) from ok_load_agg rfl rfl rfl rfl)) rfl rfl rfl (by kernel_rfl) ?_;refine RunE.one (ok_move rfl rfl) rfl rfl rfl (by kernel_rfl) ?_;refine RunE.one (ok_indexAddr rfl rfl rfl (by omega) (y := p2) (rfl)) rfl rfl rfl (by kernel_rfl) ?_;refine RunE.one ((show OpOK _ _ _ _ _ (aggS (pcan p2)) from ok_load_agg rfl rfl rfl rfl)) rfl rfl rfl (by kernel_rfl) ?_;refine RunE.one (ok_build rfl rfl rfl) rfl rfl rfl (by kernel_rfl) ?_;refine RunE.one (ok_buildSlice rfl rfl (by decide) rfl (by simp) rfl rfl) rfl rfl rfl (by kernel_rfl) ?_
 refine RunE.nil ⟨_, rfl, ?_⟩
 refine EffM.append 2 rfl rfl rfl rfl rfl rfl rfl hq (by rw [flat_qque]) (fun z hz => by rw [List.mem_singleton.1 hz]; rfl) (by unfold big; simp; omega) (by unfold big; simp; omega) fun q30 hq30 => ⟨(.cons _ (.cons_cons _ (.cons _ .slnil))), ?_⟩
 refine RunE.one (ok_nilCheck_eq rfl rfl) rfl rfl rfl (by kernel_rfl) ?_;(iterate 2 refine RunE.one (ok_fieldAddr_eq rfl rfl rfl) rfl rfl rfl (by kernel_rfl) ?_)
 refine RunE.nil ⟨_, rfl, ?_⟩
 refine .loc1n 0 (l_store rfl rfl rfl rfl (by first | decide | (simp; done) | (simp; omega))) rfl rfl rfl ?_
 rintro s1 H1 ⟨rfl, rfl⟩
 refine ⟨(.cons _ (.cons_cons _ (.cons _ .slnil))), ?_⟩
 refine RunE.nil ?_;refine zx ?_;refine zz ?_;refine zzn ?_;refine T_ret ?_
 exact ⟨_, [_, _, _], .one (.tmp rfl), List.Sublist.refl _, q30, by rw [List.length_append]; exact hq30, rfl, by rw [List.length_append, List.flatMap_append]; rfl⟩
end Go.Proofs
/- scene: the numbers of a line. -/
namespace Num
open Go Go.Lib
def rdW (k : Int) (w : List UInt8) : Int := if (num3 w).2.2 = 30 then worF k 2 else if 6 < (num3 w).2.1 then worF k 3 else k
def cdF (k : Int) (ws : List (List UInt8)) : Int := ws.foldl rdW k
def gdW (w : List UInt8) : Bool := (num3 w).2.2 != 60
def ptsF : List (List UInt8) → List (Rat × Rat)
 | a :: b :: r => ((num3 a).1, (num3 b).1) :: ptsF r
 | _ => []
theorem pts_one : ∀ (l : List (List UInt8)) (a : List UInt8), l.length % 2 = 0 → ptsF (l ++ [a]) = ptsF l
  | [], _, _ => rfl
  | [_], _, h => by simp at h
  | x :: y :: r, a, h => by
    show ((num3 x).1, (num3 y).1) :: ptsF (r ++ [a]) = ((num3 x).1, (num3 y).1) :: ptsF r
    rw [pts_one r a (by simp only [List.length_cons] at h; omega)]
theorem pts_two : ∀ (l : List (List UInt8)) (a b : List UInt8), l.length % 2 = 0 → ptsF (l ++ [a, b]) = ptsF l ++ [((num3 a).1, (num3 b).1)]
  | [], _, _, _ => rfl
  | [_], _, _, h => by simp at h
  | x :: y :: r, a, b, h => by
    show ((num3 x).1, (num3 y).1) :: ptsF (r ++ [a, b]) = ((num3 x).1, (num3 y).1) :: (ptsF r ++ _)
    rw [pts_two r a b (by simp only [List.length_cons] at h; omega)]
theorem pts_len : ∀ l : List (List UInt8), (ptsF l).length * 2 ≤ l.length
  | [] => Nat.le_refl _
  | [_] => by simp [ptsF]
  | x :: y :: r => by
    have := pts_len r
    show (_ :: ptsF r).length * 2 ≤ (x :: y :: r).length
    simp only [List.length_cons]; omega
theorem take_snoc {α : Type} {l : List α} {g : Nat} {x : α} (h : l[g]? = some x) : l.take (g + 1) = l.take g ++ [x] := by rw [List.take_add_one, h]; rfl
theorem take_even {α : Type} {l : List α} {g : Nat} (h : g ≤ l.length) (he : g % 2 = 0) : (l.take g).length % 2 = 0 := by rw [List.length_take, Nat.min_eq_left h]; exact he
theorem pts_odd {ws : List (List UInt8)} {g : Nat} {w : List UInt8} (h : ws[g]? = some w) (he : g % 2 = 0) : ptsF (ws.take (g + 1)) = ptsF (ws.take g) := by
 rw [take_snoc h, pts_one _ _ (take_even (by have := (List.getElem?_eq_some_iff.1 h).1; omega) he)]
theorem pts_even {ws : List (List UInt8)} {g : Nat} {a w : List UInt8} (ha : ws[g - 1]? = some a) (h : ws[g]? = some w) (he : g % 2 = 1) : ptsF (ws.take (g + 1)) = ptsF (ws.take g) ++ [((num3 a).1, (num3 w).1)] := by
 obtain ⟨j, rfl⟩ : ∃ j, g = j + 1 := ⟨g - 1, by omega⟩
 rw [Nat.add_sub_cancel] at ha
 rw [pts_odd ha (by omega), take_snoc h, take_snoc ha, List.append_assoc]
 exact pts_two _ _ _ (take_even (by have := (List.getElem?_eq_some_iff.1 ha).1; omega) (by omega))
theorem cd_snoc {ws : List (List UInt8)} {g : Nat} {w : List UInt8} {k : Int} (h : ws[g]? = some w) : cdF k (ws.take (g + 1)) = rdW (cdF k (ws.take g)) w := by
 unfold cdF; rw [take_snoc h, List.foldl_append]; rfl
theorem gd_snoc {ws : List (List UInt8)} {g : Nat} {w : List UInt8} (h : ws[g]? = some w) : (ws.take (g + 1)).all gdW = ((ws.take g).all gdW && gdW w) := by
 rw [take_snoc h, List.all_append]; simp
theorem gd_of {w : List UInt8} (h : (num3 w).2.2 ≠ 60) : gdW w = true := bne_iff_ne.2 h
theorem all_bad {ws : List (List UInt8)} {w : List UInt8} (hw : w ∈ ws) (h : (num3 w).2.2 = 60) : ws.all gdW = false := by
 rw [List.all_eq_false]; exact ⟨w, hw, by unfold gdW; rw [h]; decide⟩
end Num
namespace Go.Proofs
open Go Go.Sv Num
variable {G : Imm}
theorem pts_ok : ∀ (l : List (List UInt8)), ∀ p ∈ ptsF l, Bq p.1 7 ∧ Bq p.2 7
  | [], p, h => by cases h
  | [_], p, h => by cases h
  | x :: y :: r, p, h => by
    rcases List.mem_cons.1 (show p ∈ ((num3 x).1, (num3 y).1) :: ptsF r from h) with rfl | h
    · exact ⟨num3_bq x, num3_bq y⟩
    · exact pts_ok r p h
theorem raw_ok {p : Rat × Rat} {k : Nat} (h : Bq p.1 k ∧ Bq p.2 k) : PtOk k (rawP p) :=
 ⟨⟨lim_dig _, lim_dig _, dig_length_le h.1.num, dig_length_le h.1.den⟩, lim_dig _, lim_dig _, dig_length_le h.2.num, dig_length_le h.2.den⟩
theorem rawP_pv (p : Rat × Rat) : pv (rawP p) = p := by
 show (qv (rawQ p.1), qv (rawQ p.2)) = p
 rw [rawQ_qv, rawQ_qv]
theorem map_raw (l : List (Rat × Rat)) : (l.map rawP).map pv = l := by
 rw [List.map_map]
 exact (List.map_congr_left fun p _ => rawP_pv p).trans (List.map_id _)
theorem numbers_spec [Tab G] [MaxLen G] {ws : List (List UInt8)} {b : Nat} {k0 : Int} {s0 s1 s2 : SV} (hws : ∀ w ∈ ws, w.length ≤ 1000000000) (hwl : ws.length ≤ 2000000000) : CallSpec Tryz.prog G 162 [eqS (.pointer (some ⟨b, 0, none⟩)), slS 1 tC ws] [⟨some b, 148, [s0, s1, s2, intS .i64 k0], 0⟩] (fun v H' => (ws.all gdW = true ∧ v = tupS [slS 6 pcan (ptsF ws), boolS (decide (ws.length % 2 = 0) && decide ((0 : Int) < ((ptsF ws).length : Nat)))] ∧ H' = [⟨some b, 148, [s0, s1, s2, intS .i64 (cdF k0 ws)], 0⟩]) ∨ (ws.all gdW = false ∧ ∃ k, v = tupS [eqS (.slice none 0 0), boolS false] ∧ H' = [⟨some b, 148, [s0, s1, s2, intS .i64 k], 0⟩])) := by
 refine zs Tryz.func162 ?_;refine zr ?_;(iterate 2 refine zz ?_);refine zx ?_;refine zzv fun b6 => ?_;refine zzn ?_;refine T_seq ?_;refine T_ghost (ghost_row 30 6) ?_;refine zr ?_;(iterate 3 refine zz ?_);refine zzn ?_;refine T_block ?_
 refine T_loop4 (fun (g : Nat) (q : Option (Nat × Nat)) (k : Int) (c : SV × SV × SV × SV × SV × SV) => ⟨_, [(14, intS .i64 (g : Nat)), (13, intS .i64 ws.length), (12, slS 1 tC ws), (6, eqS (.pointer (some ⟨b6, 0, none⟩))), (4, eqS (rowV q (ptsF (ws.take g)).length)), (1, slS 1 tC ws), (0, eqS (.pointer (some ⟨b, 0, none⟩)))], [rowE q 30 6 (ptsF (ws.take g)).length ((ptsF (ws.take g)).flatMap pcan), ⟨some b6, 30, [c.1, c.2.1, c.2.2.1, c.2.2.2.1, c.2.2.2.2.1, c.2.2.2.2.2], 0⟩, ⟨some b, 148, [s0, s1, s2, intS .i64 k], 0⟩], [], (0, false)⟩) (fun g q k c => g ≤ ws.length ∧ rowOk q (ptsF (ws.take g)).length ∧ (ws.take g).all gdW = true ∧ k = cdF k0 (ws.take g) ∧ (g % 2 = 1 → ∃ a, ws[g - 1]? = some a ∧ c.1 = boolS (decide ((num3 a).1.num < 0)) ∧ c.2.1 = natS (dig (num3 a).1.num.natAbs) ∧ c.2.2.1 = natS (dig (num3 a).1.den))) (fun g _ _ _ => ws.length - g) 0 none k0 (eqS (.bool false), eqS (.slice none 0 0), eqS (.slice none 0 0), eqS (.bool false), eqS (.slice none 0 0), eqS (.slice none 0 0)) ⟨Nat.zero_le _, rfl, rfl, rfl, fun h => by omega⟩ (ent_h zk rfl) ?_
 rintro g q k ⟨c1, c2, c3, c4, c5, c6⟩ ⟨hg, hq, hgd, hk, hodd⟩
 simp only at hodd
 have hpl := pts_len (ws.take g)
 rw [List.length_take, Nat.min_eq_left hg] at hpl
 refine zr ?_;refine zz ?_;refine zzn ?_;refine T_seq ?_;refine zzc (fun h15 => ?_) fun h15 => ?_
 ·have k15 := of_decide_eq_true h15
  obtain ⟨w, hw⟩ : ∃ w, ws[g]? = some w := ⟨_, List.getElem?_eq_getElem (by omega)⟩
  have hwm := List.mem_of_getElem? hw
  have herr := num3_err w
  have hcs := cd_snoc (k := k0) hw
  have hgs := gd_snoc hw
  rw [← hk] at hcs
  rw [hgd] at hgs
  refine T_skip ?_;refine T_seq ?_;refine T_block ?_;refine zr ?_;refine zz ?_;refine zo (ok_indexAddr rfl rfl rfl (by omega) (y := w) (hw)) ?_;(iterate 3 refine zz ?_);refine zx ?_;refine zz ?_;refine zf (number_spec (hws w hwm)) ?_;(iterate 4 refine zz ?_);refine zzv fun b9 => ?_;refine zw ?_;(iterate 2 refine zz ?_);refine zzn ?_;refine T_seqQ (K := fun S1 => (num3 w).2.2 ≠ 60 ∧ Ent S1 ⟨61, [(7, intS .i64 (g : Nat)), (9, eqS (.pointer (some ⟨b9, 0, none⟩))), (14, intS .i64 (g : Nat)), (13, intS .i64 ws.length), (12, slS 1 tC ws), (6, eqS (.pointer (some ⟨b6, 0, none⟩))), (4, eqS (rowV q (ptsF (ws.take g)).length)), (1, slS 1 tC ws), (0, eqS (.pointer (some ⟨b, 0, none⟩)))], [⟨some b9, 28, canQ (num3 w).1, 0⟩, rowE q 30 6 (ptsF (ws.take g)).length ((ptsF (ws.take g)).flatMap pcan), ⟨some b6, 30, [c1, c2, c3, c4, c5, c6], 0⟩, ⟨some b, 148, [s0, s1, s2, intS .i64 (rdW k w)], 0⟩], [], (0, false)⟩) ?_ ?_
  ·refine T_block ?_;refine zr ?_;(iterate 3 refine zz ?_);refine zzn ?_;refine zzc (fun h25 => ?_) fun h25 => ?_
   ·have k25 := beq_iff_eq.1 h25
    refine T_region ?_;refine zz ?_;refine Run.callH [_, _, _] [_] [] rfl rfl rfl rfl worse_spec rfl rfl rfl ?_
    rintro s3 H3 ⟨rfl, rfl⟩
    refine zzn ?_
    exact ⟨by omega, ent_h (subG_cons rfl (subG_cons rfl (subG_cons rfl (subG_cons rfl (subG_cons rfl (subG_cons rfl (subG_cons rfl (subG_cons rfl (subG_cons rfl (trivial)))))))))) (by rw [show rdW k w = worF k 2 from if_pos k25]; rfl)⟩
   ·have k25 := beq_eq_false_iff_ne.1 h25
    refine zr ?_;(iterate 3 refine zz ?_);refine zzn ?_;refine zzc (fun h30 => ?_) fun h30 => ?_
    ·have k30 := bne_iff_ne.1 h30
     refine zr ?_;(iterate 2 refine zz ?_);refine zzn ?_;refine T_ret ?_
     exact ⟨_, [_], .many (.cons (.tmp rfl) (.cons (.tmp rfl) .nil)), (.cons _ (.cons _ (.cons _ (List.Sublist.refl _)))), .inr ⟨all_bad hwm (by omega), _, rfl, rfl⟩⟩
    ·have k30 := bne_eq_false_iff_eq.1 h30
     refine zr ?_;(iterate 3 refine zz ?_);refine zzn ?_;refine zzc (fun h33 => ?_) fun h33 => ?_
     ·have k33 := of_decide_eq_true h33
      refine T_region ?_;refine zz ?_;refine Run.callH [_, _, _] [_] [] rfl rfl rfl rfl worse_spec rfl rfl rfl ?_
      rintro s3 H3 ⟨rfl, rfl⟩
      refine zzn ?_
      exact ⟨by omega, ent_h (subG_cons rfl (subG_cons rfl (subG_cons rfl (subG_cons rfl (subG_cons rfl (subG_cons rfl (subG_cons rfl (subG_cons rfl (subG_cons rfl (trivial)))))))))) (by rw [show rdW k w = worF k 3 from (if_neg k25).trans (if_pos k33)]; rfl)⟩
     ·have k33 := of_decide_eq_false h33
      refine T_skip ?_
      exact ⟨by omega, ent_h (subG_cons rfl (subG_cons rfl (subG_cons rfl (subG_cons rfl (subG_cons rfl (subG_cons rfl (subG_cons rfl (subG_cons rfl (subG_cons rfl (trivial)))))))))) (by rw [show rdW k w = k from (if_neg k25).trans (if_neg k33)]; rfl)⟩
  ·rintro S1 ⟨hne, hS1⟩
   refine T_pre hS1 ?_
   rw [gd_of hne] at hgs
   refine T_seq ?_;refine zr ?_;refine zz ?_;refine zo (ok_rem rfl rfl rfl (by omega) (by omega)) ?_;refine zz ?_;refine zzn ?_;refine zzc (fun h40 => ?_) fun h40 => ?_
   ·have k40 := beq_iff_eq.1 h40
    have hev : g % 2 = 0 := by omega
    have hps := pts_odd hw hev
    refine zr ?_;refine zo ((show OpOK _ _ _ _ _ (aggS (canQ (num3 w).1)) from ok_load_own_agg 0 rfl rfl rfl rfl rfl)) ?_;refine zz ?_;refine zw ?_;refine zzn ?_;refine T_exit ?_;refine T_ghost (ghost_drop (List.sublist_cons_self _ _)) ?_;refine T_region ?_;refine za ((g + 1 : Nat) : Int) ?_;refine zz ?_;refine zzn ?_
    exact ⟨g + 1, q, rdW k w, (boolS (decide ((num3 w).1.num < 0)), natS (dig (num3 w).1.num.natAbs), natS (dig (num3 w).1.den), c4, c5, c6), ⟨by omega, by rw [hps]; exact hq, hgs, hcs.symm, fun _ => ⟨w, by rw [Nat.add_sub_cancel]; exact hw, rfl, rfl, rfl⟩⟩, by omega, ent_h (subG_cons rfl (subG_cons rfl (subG_cons rfl (subG_cons rfl (subG_as rfl (by rw [hps]) (subG_cons rfl (subG_cons rfl (trivial)))))))) (by rw [hps]; rfl)⟩
   ·have k40 := beq_eq_false_iff_ne.1 h40
    have hev : g % 2 = 1 := by omega
    obtain ⟨a, ha, rfl, rfl, rfl⟩ := hodd hev
    have hps := pts_even ha hw hev
    refine T_skip ?_;refine zr ?_;refine zo ((show OpOK _ _ _ _ _ (aggS (canQ (num3 w).1)) from ok_load_own_agg 0 rfl rfl rfl rfl rfl)) ?_;refine zz ?_;refine zw ?_;refine zzn ?_;refine T_region ?_;refine zz ?_;refine zo ((show OpOK _ _ _ _ _ (aggS (canP (num3 a).1 (num3 w).1)) from ok_load_own_agg 2 rfl rfl rfl rfl rfl)) ?_;refine zo (ok_buildSlice rfl rfl (by decide) rfl (by simp) rfl rfl) ?_;refine Run.append 1 rfl rfl rfl rfl rfl rfl rfl rfl hq (by rw [flat_pcan]) (fun z hz => by rw [List.mem_singleton.1 hz]; rfl) (by unfold big; simp; omega) (by unfold big; simp; omega) fun q48 hq48 => ?_;refine zz ?_;refine zzn ?_;refine T_ghost (ghost_drop (List.sublist_cons_self _ _)) ?_;refine T_region ?_;refine za ((g + 1 : Nat) : Int) ?_;refine zz ?_;refine zzn ?_
    exact ⟨g + 1, q48, rdW k w, (boolS (decide ((num3 a).1.num < 0)), natS (dig (num3 a).1.num.natAbs), natS (dig (num3 a).1.den), boolS (decide ((num3 w).1.num < 0)), natS (dig (num3 w).1.num.natAbs), natS (dig (num3 w).1.den)), ⟨by omega, by rw [hps, List.length_append]; exact hq48, hgs, hcs.symm, fun h => by omega⟩, by omega, ent_h (subG_cons rfl (subG_cons rfl (subG_cons rfl (subG_cons rfl (subG_as rfl (by rw [hps, List.length_append]; rfl) (subG_cons rfl (subG_cons rfl (trivial)))))))) (by rw [hps, List.length_append, List.flatMap_append]; rfl)⟩
 ·have k15 := of_decide_eq_false h15
  obtain rfl : g = ws.length := by omega
  rw [List.take_length] at hq hgd hk hpl ⊢
  have hpk := pts_ok ws
  refine T_exit ?_;refine T_ghost (ghost_sl 0 4 rfl rfl hq (l := ptsF ws) (f := pcan) rfl rfl (fun _ _ => rfl) (by unfold big; omega)) ?_;refine zr ?_;refine zz ?_;refine zo ((ok_call rfl rfl ((vNorm_spec (xs := (ptsF ws).map rawP) (k := 7) (by decide) (fun p hp => by obtain ⟨r, hr, rfl⟩ := List.mem_map.1 hp; exact raw_ok (hpk r hr)) (by decide) (by rw [List.length_map]; unfold cap; omega)).args (args' := [slS 6 pcan (ptsF ws)]) ⟨fun I v h => sl_same rawP (fun _ => rfl) h, trivial⟩)).sub (show ∀ I v, (slS 6 pcan (((ptsF ws).map rawP).map pv)).den I v → (slS 6 pcan (ptsF ws)).den I v from fun I v h => by rw [map_raw] at h; exact h)) ?_;(iterate 2 refine zz ?_);refine zo (ok_rem rfl rfl rfl (by omega) (by omega)) ?_
  refine Run.oneB ((ok_cmp rfl rfl rfl rfl).sub (bool_eq (c := decide (ws.length % 2 = 0)) (by rw [Bool.eq_iff_iff, beq_iff_eq, decide_eq_true_iff]; omega))) rfl rfl rfl (fun h17_5 => ?_) (fun h17_5 => ?_)
  ·refine zz ?_;(iterate 6 refine zz ?_);refine zzn ?_;refine T_ret ?_
   exact ⟨_, [_], .many (.cons (.tmp rfl) (.cons (.tmp rfl) .nil)), (.cons _ (List.Sublist.refl _)), .inl ⟨hgd, by rw [show decide (ws.length % 2 = 0) = true from h17_5]; rfl, by rw [hk]⟩⟩
  ·refine zz ?_;(iterate 3 refine zq ?_);(iterate 3 refine zz ?_);refine zzn ?_;refine T_ret ?_
   exact ⟨_, [_], .many (.cons (.tmp rfl) (.cons (.tmp rfl) .nil)), (.cons _ (List.Sublist.refl _)), .inl ⟨hgd, by rw [show decide (ws.length % 2 = 0) = false from h17_5]; rfl, by rw [hk]⟩⟩
end Go.Proofs
/- scene: a line of a text. -/
namespace Num
open Go Go.Lib
structure Rd where
 rob : List (Rat × Rat)
 obs : List (List (Rat × Rat))
 que : List ((Rat × Rat) × (Rat × Rat))
 code : Int
def doF (rd : Rd) (w : List UInt8) (l : List (Rat × Rat)) : Option Rd :=
 if w = wRob then (if rd.rob = [] then some { rd with rob := l } else none)
 else if w = wObs then (if rd.rob = [] ∨ rd.que ≠ [] then none else some { rd with obs := rd.obs ++ [l] })
 else if w = wQue then (match l with | [a, b] => if rd.rob = [] then none else some { rd with que := rd.que ++ [(a, b)] } | _ => none)
 else none
def okP (r : List (List UInt8)) : Bool := decide (r.length % 2 = 0) && decide ((0 : Int) < ((ptsF r).length : Nat))
def lineW (rd : Rd) (w : List UInt8) (r : List (List UInt8)) : Option Rd := if r.all gdW && okP r then doF { rd with code := cdF rd.code r } w (ptsF r) else none
def lineF (rd : Rd) (s : List UInt8) : Option Rd := if ful (spl 32 s) then (match spl 32 s with | w :: r => lineW rd w r | [] => none) else none
end Num
namespace Go.Proofs
open Go Go.Sv Num
variable {G : Imm}
def robS (l : List QP) : SV := match l with | [] => eqS (.slice none 0 0) | _ => slS 6 pcan l
theorem robS_cons {l : List QP} (h : l ≠ []) : robS l = slS 6 pcan l := by cases l with | nil => exact absurd rfl h | cons _ _ => rfl
abbrev RHn (b : Nat) (s0 : SV) (obs : List (List QP)) (que : List (QP × QP)) (k : Int) (qo qq : Option (Nat × Nat)) : HL :=
 [⟨some b, 148, [s0, eqS (rowV qo obs.length), eqS (rowV qq que.length), intS .i64 k], 0⟩, rowE qo 22 1 obs.length (obs.flatMap qrowC), rowE qq 69 12 que.length (que.flatMap qqueC)]
abbrev RH (b : Nat) (rd : Rd) (qo qq : Option (Nat × Nat)) : HL := RHn b (robS rd.rob) rd.obs rd.que rd.code qo qq
def RHo (b : Nat) (o : Option Rd) (qo qq : Option (Nat × Nat)) : HL := match o with | some rd => RH b rd qo qq | none => []
def rOk (o : Option Rd) (qo qq : Option (Nat × Nat)) : Prop := match o with | some rd => rowOk qo rd.obs.length ∧ rowOk qq rd.que.length | none => True
abbrev QD (b : Nat) (o : Option Rd) (v : SV) (H' : HL) : Prop := ∃ qo qq, rOk o qo qq ∧ v = boolS o.isSome ∧ H' = RHo b o qo qq
abbrev ptB (b : Nat) : Value := .pointer (some ⟨b, 0, none⟩)
theorem does_robot {b : Nat} {rd : Rd} {qo qq : Option (Nat × Nat)} {l : List QP} (hl : l ≠ []) (h1 : rowOk qo rd.obs.length) (h2 : rowOk qq rd.que.length) : CallSpec Tryz.prog G 159 [eqS (ptB b), slS 6 pcan l] (RH b rd qo qq) (QD b (doF rd wRob l)) := by
 obtain ⟨rob, obs, que, k⟩ := rd
 by_cases hr : rob = []
 ·subst hr
  refine (CallSpec.frame [] [_, _] (robot_nil (l := l))).mono ?_
  rintro s H' ⟨H1, ⟨rfl, rfl⟩, rfl⟩
  exact ⟨qo, qq, ⟨h1, h2⟩, rfl, by show _ = RHn b (robS l) _ _ _ _ _; rw [robS_cons hl]; rfl⟩
 ·unfold RH
  simp only [robS_cons hr]
  refine (CallSpec.frame [] [_, _] (robot_some hr (l := l))).weak ?_
  rintro s H' ⟨H1, ⟨rfl, rfl⟩, rfl⟩
  refine ⟨_, [], fun _ _ h => h, List.nil_sublist _, none, none, ?_⟩
  rw [show doF ⟨rob, obs, que, k⟩ wRob l = none by simp [doF, hr]]
  exact ⟨trivial, rfl, rfl⟩
theorem does_obst {b : Nat} {rd : Rd} {qo qq : Option (Nat × Nat)} {l : List QP} (h1 : rowOk qo rd.obs.length) (h2 : rowOk qq rd.que.length) (h3 : rd.obs.length ≤ 2000000000) : CallSpec Tryz.prog G 160 [eqS (ptB b), slS 6 pcan l] (RH b rd qo qq) (QD b (doF rd wObs l)) := by
 obtain ⟨rob, obs, que, k⟩ := rd
 have hne : (wObs = wRob) ↔ False := by decide
 by_cases hr : rob = []
 ·subst hr
  refine (CallSpec.frame [] [_, _] (obst_nil (l := l))).weak ?_
  rintro s H' ⟨H1, ⟨rfl, rfl⟩, rfl⟩
  refine ⟨_, [], fun _ _ h => h, List.nil_sublist _, none, none, ?_⟩
  rw [show doF ⟨[], obs, que, k⟩ wObs l = none by simp [doF]]
  exact ⟨trivial, rfl, rfl⟩
 ·unfold RH
  simp only [robS_cons hr]
  by_cases hq : que = []
  ·subst hq
   refine (CallSpec.frame [] [_] (obst_ok hr h1 h2 h3 (l := l))).mono ?_
   rintro s H' ⟨H1, ⟨qo', hq', rfl, rfl⟩, rfl⟩
   rw [show doF ⟨rob, obs, [], k⟩ wObs l = some ⟨rob, obs ++ [l], [], k⟩ by simp [doF, hr]]
   exact ⟨qo', qq, ⟨hq', h2⟩, rfl, by show _ = RHn b (robS rob) _ _ _ _ _; rw [robS_cons hr]; rfl⟩
  ·refine (CallSpec.frame [] [_, _] (obst_que hr h2 (by simpa using hq) (l := l))).weak ?_
   rintro s H' ⟨H1, ⟨rfl, rfl⟩, rfl⟩
   refine ⟨_, [], fun _ _ h => h, List.nil_sublist _, none, none, ?_⟩
   rw [show doF ⟨rob, obs, que, k⟩ wObs l = none by simp [doF, hq]]
   exact ⟨trivial, rfl, rfl⟩
theorem doF_len {rob : List QP} {obs : List (List QP)} {que : List (QP × QP)} {k : Int} {l : List QP} (h : l.length ≠ 2) : doF ⟨rob, obs, que, k⟩ wQue l = none := by
 unfold doF
 rw [if_neg (by decide), if_neg (by decide), if_pos rfl]
 match l, h with
 | [], _ => rfl
 | [_], _ => rfl
 | [_, _], h => exact absurd rfl h
 | _ :: _ :: _ :: _, _ => rfl
theorem does_query {b : Nat} {rd : Rd} {qo qq : Option (Nat × Nat)} {l : List QP} (h1 : rowOk qo rd.obs.length) (h2 : rowOk qq rd.que.length) (h3 : rd.que.length ≤ 2000000000) : CallSpec Tryz.prog G 161 [eqS (ptB b), slS 6 pcan l] (RH b rd qo qq) (QD b (doF rd wQue l)) := by
  obtain ⟨rob, obs, que, k⟩ := rd
  have none' : ∀ (s : SV) (H1 : HL), s = boolS false → doF ⟨rob, obs, que, k⟩ wQue l = none → ∃ s2 H2, (∀ I v, s.den I v → s2.den I v) ∧ H2.Sublist H1 ∧ QD b (doF ⟨rob, obs, que, k⟩ wQue l) s2 H2 := fun s H1 hs hd =>
    ⟨s, [], fun _ _ h => h, List.nil_sublist _, none, none, by rw [hd]; exact ⟨trivial, hs, rfl⟩⟩
  by_cases hr : rob = []
  · subst hr
    refine (CallSpec.frame [] [_, _] (query_nil (l := l))).weak ?_
    rintro s H' ⟨H1, ⟨rfl, rfl⟩, rfl⟩
    refine none' _ _ rfl ?_
    by_cases hl : l.length = 2
    · match l, hl with
      | [_, _], _ => rfl
    · exact doF_len hl
  · unfold RH
    simp only [robS_cons hr]
    by_cases hl : l.length = 2
    · match l, hl with
      | [p1, p2], _ =>
        refine (CallSpec.frame [] [] (query_ok hr h2 h3)).mono ?_
        rintro s H' ⟨H1, ⟨qq', hq', rfl, rfl⟩, rfl⟩
        rw [show doF ⟨rob, obs, que, k⟩ wQue [p1, p2] = some ⟨rob, obs, que ++ [(p1, p2)], k⟩ by
          unfold doF; rw [if_neg (by decide), if_neg (by decide), if_pos rfl]; simp [hr]]
        exact ⟨qo, qq', ⟨h1, hq'⟩, rfl, by show _ = RHn b (robS rob) _ _ _ _ _; rw [robS_cons hr]; rfl⟩
    · refine (CallSpec.frame [] [_, _] (query_len hr hl)).weak ?_
      rintro s H' ⟨H1, ⟨rfl, rfl⟩, rfl⟩
      exact none' _ _ rfl (doF_len hl)
def isW (w : List UInt8) : Bool := decide (w = wRob) || (decide (w = wObs) || decide (w = wQue))
abbrev fB (b f : Nat) : Value := .func (.func f) #[ptB b] #[]
def atW (b : Nat) (w : List UInt8) : Value := if w = wRob then fB b 159 else if w = wObs then fB b 160 else if w = wQue then fB b 161 else .nilFunc
theorem bytes_beq (l m : List UInt8) : ((⟨l.toArray⟩ : ByteArray) == ⟨m.toArray⟩) = decide (l = m) := by
 show (l.toArray == m.toArray) = decide (l = m)
 rw [Bool.eq_iff_iff, beq_iff_eq, decide_eq_true_iff]
 exact ⟨fun h => by simpa using h, fun h => by rw [h]⟩
theorem find3 (w : List UInt8) (v1 v2 v3 : Value) : Instr.findNow .string (.string ⟨w.toArray⟩) [{ key := .string ⟨wRob.toArray⟩, val := v1, born := 0 }, { key := .string ⟨wObs.toArray⟩, val := v2, born := 1 }, { key := .string ⟨wQue.toArray⟩, val := v3, born := 2 }] 0 = some (if w = wRob then some (0, v1) else if w = wObs then some (1, v2) else if w = wQue then some (2, v3) else none) := by
 simp only [Instr.findNow, Instr.sameNow, bytes_beq]
 by_cases h1 : w = wRob
 ·simp [h1]
 ·by_cases h2 : w = wObs
  ·simp [h2]
  ·by_cases h3 : w = wQue
   ·simp [h3]
   ·simp [h1, h2, h3]
theorem zero_fn (W : World) : (zeroValue 99).run Tryz.prog W = .ok .nilFunc W := by
 have h : (Tryz.prog.info? 99).bind (·.zero) = some .nilFunc := by kernel_rfl
 obtain ⟨i, hi, hz⟩ := Option.bind_eq_some_iff.1 h
 simp [zeroValue, typeInfo, hi, hz]
theorem ok_isW {H : HL} {o : Oper} {g : List (Nat × SV)} {x : Operand} {u b : Nat} {w : List UInt8} (hop : o.op = .binOp .neq 99 x (.const .nilFunc) u) (hx : opE g x = some (eqS (atW b w))) : OpOK Tryz.prog G H o g (boolS (isW w)) := by
 unfold atW at hx
 unfold isW
 by_cases h1 : w = wRob
 ·rw [if_pos h1] at hx; rw [decide_eq_true h1]; exact ok_neq_fn Tryz.underlying99 hop hx
 ·rw [if_neg h1] at hx
  by_cases h2 : w = wObs
  ·rw [if_pos h2] at hx; rw [decide_eq_false h1, decide_eq_true h2]; exact ok_neq_fn Tryz.underlying99 hop hx
  ·rw [if_neg h2] at hx
   by_cases h3 : w = wQue
   ·rw [if_pos h3] at hx; rw [decide_eq_false h1, decide_eq_false h2, decide_eq_true h3]; exact ok_neq_fn Tryz.underlying99 hop hx
   ·rw [if_neg h3] at hx; rw [decide_eq_false h1, decide_eq_false h2, decide_eq_false h3]; exact ok_neq_fn0 Tryz.underlying99 hop hx
theorem l_does {o : Oper} {g : List (Nat × SV)} {x y : Operand} {ts : Array TypeId} {b : Nat} {rd : Rd} {qo qq : Option (Nat × Nat)} {w : List UInt8} {l : List QP} (hw : isW w = true) (hop : o.op = .call { callee := .value x, args := #[y], argTypes := ts }) (hx : opE g x = some (eqS (atW b w))) (hy : argsE g [y] = some [slS 6 pcan l]) (hl : l ≠ [])
  (h1 : rowOk qo rd.obs.length) (h2 : rowOk qq rd.que.length) (h3 : rd.obs.length ≤ 2000000000) (h4 : rd.que.length ≤ 2000000000) : OpL Tryz.prog G o g (RH b rd qo qq) (QD b (doF rd w l)) := by
 unfold atW at hx
 by_cases e1 : w = wRob
 ·rw [if_pos e1] at hx; subst e1; exact l_callB hop hx hy (does_robot hl h1 h2)
 ·rw [if_neg e1] at hx
  by_cases e2 : w = wObs
  ·rw [if_pos e2] at hx; subst e2; exact l_callB hop hx hy (does_obst h1 h2 h3)
  ·rw [if_neg e2] at hx
   by_cases e3 : w = wQue
   ·rw [if_pos e3] at hx; subst e3; exact l_callB hop hx hy (does_query h1 h2 h4)
   ·unfold isW at hw; rw [decide_eq_false e1, decide_eq_false e2, decide_eq_false e3] at hw; cases hw
theorem at_eq (b : Nat) (w : List UInt8) : atW b w = resV .nilFunc (if w = wRob then some ((0 : Nat), fB b 159) else if w = wObs then some (1, fB b 160) else if w = wQue then some (2, fB b 161) else none) := by
 unfold atW
 by_cases e1 : w = wRob
 ·rw [if_pos e1, if_pos e1]; rfl
 ·rw [if_neg e1, if_neg e1]
  by_cases e2 : w = wObs
  ·rw [if_pos e2, if_pos e2]; rfl
  ·rw [if_neg e2, if_neg e2]
   by_cases e3 : w = wQue
   ·rw [if_pos e3, if_pos e3]; rfl
   ·rw [if_neg e3, if_neg e3]; rfl
theorem Run.opH {P : Program} {E : Env} {r0 : Option Nat} {gd : Nat → Option Nat} {p : Bool} {o : Oper} {ops : List Oper} {K : St → Prop} (pre Hp suf : HL) {n0 d0 : Nat} {g : List (Nat × SV)} {h : HL} {d : List Nat} {i : Nat × Bool} {Q : SV → HL → Prop} (hp : p = false) (hH : h = pre ++ Hp ++ suf) (ho : OpL P G o g Hp Q) (hg : guardAt gd g o true) (ht : o.dst = some d0) (hd : Nat.blt d0 n0 = true)
  (hr : ∀ s H', Q s H' → Run P G E r0 gd p ops ⟨n0, (d0, s) :: g, pre ++ H' ++ suf, d, i⟩ K) : Run P G E r0 gd p (o :: ops) ⟨n0, g, h, d, i⟩ K := by
 refine Run.loc (S := ⟨n0, g, h, d, i⟩) (pre := pre) (Hp := Hp) (suf := suf) hp hH ho hg (by simp only [dstOk, ht]; exact hd) fun s H' hq => ?_
 rw [ht]; exact hr s H' hq
theorem doF_none {rd : Rd} {w : List UInt8} {l : List QP} (h : isW w = false) : doF rd w l = none := by
 unfold isW at h
 simp only [Bool.or_eq_false_iff, decide_eq_false_iff_not] at h
 unfold doF
 rw [if_neg h.1, if_neg h.2.1, if_neg h.2.2]
theorem numbers2_spec [Tab G] [MaxLen G] {ws : List (List UInt8)} {b : Nat} {k0 : Int} {s0 s1 s2 : SV} (hws : ∀ w ∈ ws, w.length ≤ 1000000000) (hwl : ws.length ≤ 2000000000) : CallSpec Tryz.prog G 162 [eqS (ptB b), slS 1 tC ws] [⟨some b, 148, [s0, s1, s2, intS .i64 k0], 0⟩] (fun v H' => ∃ k, (ws.all gdW = true → k = cdF k0 ws) ∧ v = tupS [slS 6 pcan (if ws.all gdW = true then ptsF ws else []), boolS (ws.all gdW && okP ws)] ∧ H' = [⟨some b, 148, [s0, s1, s2, intS .i64 k], 0⟩]) := by
 refine (numbers_spec (k0 := k0) (s0 := s0) (s1 := s1) (s2 := s2) hws hwl).weak ?_
 rintro s H1 (⟨ha, rfl, rfl⟩ | ⟨ha, k, rfl, rfl⟩)
 ·exact ⟨_, _, fun _ _ h => h, List.Sublist.refl _, _, fun _ => rfl, by rw [ha, if_pos rfl]; rfl, rfl⟩
 ·refine ⟨tupS [slS 6 pcan (if ws.all gdW = true then ptsF ws else []), boolS (ws.all gdW && okP ws)], _, ?_, List.Sublist.refl _, k, fun h => absurd (ha.symm.trans h) (by decide), rfl, rfl⟩
  rw [ha, if_neg (by decide)]
  rintro I v ⟨xs, hv, hd⟩
  refine ⟨xs, hv, ?_⟩
  obtain ⟨x, r1, rfl, hx, hr1⟩ := dens_cons_inv hd
  obtain ⟨y, r2, rfl, hy, hr2⟩ := dens_cons_inv hr1
  exact dens_cons (show (slS 6 pcan []).den I x by rw [show x = .slice none 0 0 from hx]; exact ⟨none, 0, rfl, Nat.le_refl _, Nat.zero_le _, .inl rfl⟩) (dens_cons hy hr2)
theorem rline_spec [Tab G] [MaxLen G] {s : List UInt8} {b : Nat} {rd : Rd} {qo qq : Option (Nat × Nat)} (hs : s.length ≤ 1000000000) (h1 : rowOk qo rd.obs.length) (h2 : rowOk qq rd.que.length) (h3 : rd.obs.length ≤ 2000000000) (h4 : rd.que.length ≤ 2000000000) : CallSpec Tryz.prog G 116 [eqS (ptB b), strS s] (RH b rd qo qq) (QD b (lineF rd s)) := by
 obtain ⟨w, r, hwr⟩ : ∃ w r, spl 32 s = w :: r := by cases h : spl 32 s with | nil => exact absurd h (spl_ne 32 s) | cons w r => exact ⟨w, r, rfl⟩
 have hsp := words_spec (G := G) (s := s) hs
 have hmem : ∀ x ∈ spl 32 s, x.length ≤ 1000000000 := fun x hx => Nat.le_trans (spl_mem hx) hs
 have hln := spl_len 32 s
 rw [hwr] at hsp hmem hln
 rw [List.length_cons] at hln
 have hmr : ∀ x ∈ r, x.length ≤ 1000000000 := fun x hx => hmem x (by simp [hx])
 have hF : lineF rd s = if ful (w :: r) then lineW rd w r else none := by unfold lineF; rw [hwr]
 obtain ⟨F, hFe⟩ : ∃ F, F = ful (w :: r) := ⟨_, rfl⟩
 rw [← hFe] at hsp hF
 rw [hF]
 clear hF
 refine zs Tryz.func116 ?_;refine zr ?_;refine zz ?_;refine zx ?_;refine zz ?_;refine zf hsp ?_;(iterate 5 refine zz ?_);refine zzn ?_;refine T_seq ?_;refine zr ?_;(iterate 2 refine zz ?_);refine zzn ?_;refine zzc (fun h16 => ?_) fun h16 => ?_
 ·have k16 := bne_iff_ne.1 h16
  obtain rfl : F = false := by cases F; rfl; exact absurd rfl k16
  have hNo : (if false = true then lineW rd w r else none) = none := rfl
  refine zr ?_;refine zz ?_;refine zzn ?_;refine T_ret ?_
  exact ⟨_, [], .one (.tmp rfl), List.nil_sublist _, none, none, by rw [hNo]; exact ⟨trivial, rfl, rfl⟩⟩
 ·have k16 := bne_eq_false_iff_eq.1 h16
  obtain rfl : F = true := by cases F; exact absurd k16 (by decide); rfl
  have hYes : (if true = true then lineW rd w r else none) = lineW rd w r := rfl
  refine T_skip ?_;refine T_regionVS ?_;refine RunV.map rfl rfl rfl rfl fun bm => ?_;refine RunV.one (ok_move rfl rfl) rfl rfl rfl ?_;refine RunV.one (ok_bound rfl rfl) rfl rfl rfl ?_;refine RunV.ins (w := wRob) rfl Tryz.underlying182 Tryz.underlying9 rfl rfl rfl (by simp [Instr.findNow, Instr.sameNow, bytes_beq]) rfl rfl ?_;refine RunV.one (ok_move rfl rfl) rfl rfl rfl ?_;refine RunV.one (ok_bound rfl rfl) rfl rfl rfl ?_;refine RunV.ins (w := wObs) rfl Tryz.underlying182 Tryz.underlying9 rfl rfl rfl (by simp [Instr.findNow, Instr.sameNow, bytes_beq]) rfl rfl ?_;refine RunV.one (ok_move rfl rfl) rfl rfl rfl ?_;refine RunV.one (ok_bound rfl rfl) rfl rfl rfl ?_;refine RunV.ins (w := wQue) rfl Tryz.underlying182 Tryz.underlying9 rfl rfl rfl (by simp [Instr.findNow, Instr.sameNow, bytes_beq]) rfl rfl ?_;(iterate 2 refine RunV.one (ok_move rfl rfl) rfl rfl rfl ?_);refine RunV.one (ok_indexAddr rfl rfl rfl (by omega) (y := w) rfl) rfl rfl rfl ?_;refine RunV.one (ok_load rfl rfl) rfl rfl rfl ?_;refine RunV.look (v := atW b w) rfl Tryz.underlying182 Tryz.underlying9 rfl rfl zero_fn (find3 w _ _ _) (at_eq b w) rfl rfl rfl ?_;refine zz ?_;refine zx ?_;(iterate 2 refine zz ?_);refine zo ((ok_slice (lo := 1) (hi := (w :: r).length) (m := 0) rfl rfl (.inr ⟨_, _, rfl, rfl⟩) (.inl ⟨rfl, rfl, rfl⟩) (.inl rfl) (by simp) (Nat.le_refl _)).sub (show ∀ I v, (slS 1 tC (((w :: r).take (w :: r).length).drop 1)).den I v → (slS 1 tC r).den I v from fun I v h => by rw [List.take_length] at h; exact h)) ?_;refine Run.callH [] [_] [_, _] rfl rfl rfl rfl (numbers2_spec hmr (by omega)) rfl rfl rfl ?_
  rintro s1 H1 ⟨k, hk, rfl, rfl⟩
  (iterate 5 refine zz ?_);refine zx ?_
  refine Run.oneB (ok_move rfl rfl) rfl rfl rfl (fun h6_0 => ?_) (fun h6_0 => ?_)
  ·have hgo := (Bool.and_eq_true _ _).mp h6_0
   rw [if_pos hgo.1]
   obtain rfl := hk hgo.1
   have hne : ptsF r ≠ [] := by intro e; have := hgo.2; unfold okP at this; rw [e] at this; simp at this
   have hLW : lineW rd w r = doF ⟨rd.rob, rd.obs, rd.que, cdF rd.code r⟩ w (ptsF r) := if_pos h6_0
   (iterate 2 refine zz ?_);refine zo (ok_isW rfl rfl) ?_
   refine Run.oneB (ok_pick rfl rfl rfl) rfl rfl rfl (fun h6_4 => ?_) (fun h6_4 => ?_)
   ·refine zz ?_;(iterate 2 refine zz ?_);refine Run.opH [] (RH b ⟨rd.rob, rd.obs, rd.que, cdF rd.code r⟩ qo qq) [] rfl rfl (l_does h6_4 rfl rfl rfl hne h1 h2 h3 h4) (gB rfl rfl rfl rfl) rfl rfl ?_
    rintro s2 H2 ⟨qo2, qq2, ho2, rfl, rfl⟩
    (iterate 2 refine zz ?_);refine zzn ?_;refine T_ret ?_
    exact ⟨_, _, .one (.tmp rfl), List.Sublist.refl _, qo2, qq2, by rw [hYes, hLW]; exact ⟨ho2, rfl, by simp⟩⟩
   ·have hNo : (if true = true then lineW rd w r else none) = none := hYes.trans (hLW.trans (doF_none h6_4))
    refine zz ?_;(iterate 3 refine zq ?_);(iterate 2 refine zz ?_);refine zzn ?_;refine T_ret ?_
    exact ⟨_, [], .one (.tmp rfl), List.nil_sublist _, none, none, by rw [hNo]; exact ⟨trivial, rfl, rfl⟩⟩
  ·have hNo : (if true = true then lineW rd w r else none) = none := hYes.trans (if_neg (by rw [h6_0]; decide))
   refine zz ?_;(iterate 2 refine zq ?_);(iterate 2 refine zz ?_);(iterate 3 refine zq ?_);(iterate 2 refine zz ?_);refine zzn ?_;refine T_ret ?_
   exact ⟨_, [], .one (.tmp rfl), List.nil_sublist _, none, none, by rw [hNo]; exact ⟨trivial, rfl, rfl⟩⟩
end Go.Proofs
/- scene: a text is read. -/
namespace Num
open Go Go.Lib
def rd0 : Rd := ⟨[], [], [], 0⟩
def stepF (o : Option Rd) (s : List UInt8) : Option Rd := o.bind fun rd => lineF rd s
def goF (ls : List (List UInt8)) : Option Rd := ls.foldl stepF (some rd0)
def parseF (t : List UInt8) : (List (Rat × Rat) × List (List (Rat × Rat)) × List ((Rat × Rat) × (Rat × Rat))) × Int :=
 if lnOk t then (match goF (spl 10 (trimSuffix t [10])) with | none => (([], [], []), 1) | some rd => if rd.code ≠ 0 then (([], [], []), rd.code) else ((rd.rob, rd.obs, rd.que), 0)) else (([], [], []), 1)
theorem step_none (ls : List (List UInt8)) : ls.foldl stepF none = none := by
 induction ls with
 | nil => rfl
 | cons s r ih => exact ih
theorem go_snoc {ls : List (List UInt8)} {g : Nat} {w : List UInt8} {rd : Rd} (hw : ls[g]? = some w) (h : goF (ls.take g) = some rd) : goF (ls.take (g + 1)) = lineF rd w := by
 unfold goF at h ⊢
 rw [take_snoc hw, List.foldl_append, h]; rfl
theorem go_none {ls : List (List UInt8)} {g : Nat} (h : goF (ls.take g) = none) : goF ls = none := by
 unfold goF at h ⊢
 rw [← List.take_append_drop g ls, List.foldl_append, h]; exact step_none _
theorem doF_lens {rd rd' : Rd} {w : List UInt8} {l : List (Rat × Rat)} (h : doF rd w l = some rd') : rd'.obs.length ≤ rd.obs.length + 1 ∧ rd'.que.length ≤ rd.que.length + 1 := by
 unfold doF at h
 split at h
 ·split at h
  ·cases h; exact ⟨Nat.le_succ _, Nat.le_succ _⟩
  ·cases h
 ·split at h
  ·split at h
   ·cases h
   ·cases h; exact ⟨by simp, Nat.le_succ _⟩
  ·split at h
   ·split at h
    ·split at h
     ·cases h
     ·cases h; exact ⟨Nat.le_succ _, by simp⟩
    ·cases h
   ·cases h
theorem lineF_lens {rd rd' : Rd} {s : List UInt8} (h : lineF rd s = some rd') : rd'.obs.length ≤ rd.obs.length + 1 ∧ rd'.que.length ≤ rd.que.length + 1 := by
 unfold lineF at h
 split at h
 ·split at h
  ·unfold lineW at h
   split at h
   ·have h2 := doF_lens h; exact h2
   ·cases h
  ·cases h
 ·cases h
end Num
namespace Go.Proofs
open Go Go.Sv Num
variable {G : Imm}
theorem rob_sl {l : List QP} (I : Imm) (v : Value) (h : (robS l).den I v) : (slS 6 pcan l).den I v := by
 cases l with
 | nil => rw [show v = .slice none 0 0 from h]; exact ⟨none, 0, rfl, Nat.le_refl _, Nat.zero_le _, .inl rfl⟩
 | cons _ _ => exact h
theorem nil_qs (I : Imm) (v : Value) (h : (aggS [eqS (.slice none 0 0), eqS (.slice none 0 0), eqS (.slice none 0 0)]).den I v) : (aggS (qsC ([], [], []))).den I v := by
 obtain ⟨xs, hv, hd, h1⟩ := h
 obtain ⟨x, y, z, rfl, hx, hy, hz⟩ := dens_three hd
 have n0 : ∀ {α : Type} {st : Nat} {f : α → List SV} {v : Value}, v = .slice none 0 0 → (slS st f []).den I v := fun e => by rw [e]; exact ⟨none, 0, rfl, Nat.le_refl _, Nat.zero_le _, .inl rfl⟩
 exact ⟨_, hv, dens_cons (n0 hx) (dens_cons (n0 hy) (dens_cons (n0 hz) dens_nil)), h1⟩
theorem rob_qs {r : List QP} {o : List (List QP)} {q : List (QP × QP)} (I : Imm) (v : Value) (h : (aggS [robS r, slS 1 qrowC o, slS 12 qqueC q]).den I v) : (aggS (qsC (r, o, q))).den I v := by
 obtain ⟨xs, hv, hd, h1⟩ := h
 obtain ⟨x, y, z, rfl, hx, hy, hz⟩ := dens_three hd
 exact ⟨_, hv, dens_cons (rob_sl I x hx) (dens_cons hy (dens_cons hz dens_nil)), h1⟩
theorem parse12_spec [Tab G] [MaxLen G] {t : List UInt8} (ht : t.length ≤ 1000000000) : PSpec Tryz.prog G 72 [strS t] (tupS [aggS (qsC (parseF t).1), intS .i64 (parseF t).2]) := by
 have hls := lines_spec (G := G) (s := t) ht
 obtain ⟨L, hL⟩ : ∃ L, L = if lnOk t = true then spl 10 (Lib.trimSuffix t [10]) else [] := ⟨_, rfl⟩
 obtain ⟨E, hE⟩ : ∃ E : Int, E = if t = [] ∨ lnOk t = true then 0 else 110 := ⟨_, rfl⟩
 rw [← hL, ← hE] at hls
 have hLl : L.length ≤ 1000000001 := by rw [hL]; split; exact Nat.le_trans (spl_len _ _) (by have := ts_len t 10; omega); exact Nat.zero_le _
 have hLw : ∀ x ∈ L, x.length ≤ 1000000000 := by rw [hL]; split; exact fun x hx => Nat.le_trans (spl_mem hx) (by have := ts_len t 10; omega); exact fun x hx => by cases hx
 have hL0 : lnOk t = false → L = [] := fun h => by rw [hL, h]; rfl
 have hL1 : lnOk t = true → 0 < L.length := fun h => by rw [hL, if_pos h]; exact List.length_pos_iff.2 (spl_ne _ _)
 have hE1 : lnOk t = true → E = 0 := fun h => by rw [hE, if_pos (.inr h)]
 have hP0 : lnOk t = false → parseF t = (([], [], []), 1) := fun h => by unfold parseF; rw [if_neg (by rw [h]; decide)]
 have hP1 : lnOk t = true → parseF t = (match goF L with | none => (([], [], []), 1) | some rd => if rd.code ≠ 0 then (([], [], []), rd.code) else ((rd.rob, rd.obs, rd.que), 0)) := fun h => by unfold parseF; rw [if_pos h, hL, if_pos h]
 refine zs Tryz.func72 ?_;refine zr ?_;refine zzv fun b2 => ?_;refine zz ?_;refine zzn ?_;refine T_scope ?_;refine zr ?_;refine zz ?_;refine zf hls ?_;(iterate 5 refine zz ?_);refine zx ?_;refine zz ?_;refine Run.box rfl rfl rfl rfl rfl rfl fun b6 => ?_;refine zz ?_;refine zx ?_;refine zz ?_
 refine Run.oneB (ok_cmp rfl rfl rfl rfl) rfl rfl rfl (fun h3_1 => ?_) (fun h3_1 => ?_)
 ·have k3_1 := beq_iff_eq.1 h3_1
  (iterate 4 refine zz ?_);refine zo ((ok_pick rfl rfl rfl).sub (bool_eq (c := lnOk t) (by rw [Bool.eq_iff_iff, decide_eq_true_iff]; exact ⟨fun h => by cases hc : lnOk t with | true => rfl | false => rw [hL0 hc] at h; exact absurd h (by decide), fun h => by have := hL1 h; omega⟩))) ?_;refine zz ?_;refine zzn ?_;refine T_seq ?_;refine T_label ?_;refine T_seq ?_;refine T_ghost (ghost_row 69 12) ?_;refine T_ghost (ghost_row 22 1) ?_;refine T_ghost (ghost_perm (List.perm_middle (l₁ := [_, _]) (a := _) (l₂ := [_]))) ?_;refine zr ?_;(iterate 3 refine zz ?_);refine zzn ?_;refine T_block ?_;refine T_loop4 (fun (g : Nat) (rd : Rd) (qo qq : Option (Nat × Nat)) => ⟨_, [(26, intS .i64 (g : Nat)), (25, intS .i64 L.length), (24, slS 1 tC L), (7, boolS (lnOk t)), (6, eqS (ptB b6)), (2, eqS (.pointer (some ⟨b2, 0, none⟩)))], RH b6 rd qo qq ++ [⟨some b2, 54, [eqS (.slice none 0 0), eqS (.slice none 0 0), eqS (.slice none 0 0)], 0⟩], [], (0, false)⟩) (fun g rd qo qq => g ≤ L.length ∧ goF (L.take g) = some rd ∧ rowOk qo rd.obs.length ∧ rowOk qq rd.que.length ∧ rd.obs.length ≤ g ∧ rd.que.length ≤ g) (fun g _ _ _ => L.length - g) 0 rd0 none none ⟨Nat.zero_le _, rfl, rfl, rfl, Nat.zero_le _, Nat.zero_le _⟩ (ent_h zk rfl) ?_
  rintro g rd qo qq ⟨hg, hgo, hq1, hq2, ho1, ho2⟩
  refine zr ?_;refine zz ?_;refine zzn ?_;refine T_seq ?_;refine zzc (fun h27 => ?_) fun h27 => ?_
  ·have k27 := of_decide_eq_true h27
   obtain ⟨w, hw⟩ : ∃ w, L[g]? = some w := ⟨_, List.getElem?_eq_getElem (by omega)⟩
   have hok : lnOk t = true := by cases hc : lnOk t with | true => rfl | false => rw [hL0 hc] at hw; cases hw
   have hwl := hLw w (List.mem_of_getElem? hw)
   have hgs := go_snoc hw hgo
   refine T_skip ?_;refine T_seq ?_;refine T_block ?_;refine zr ?_;refine zo (ok_indexAddr rfl rfl rfl (by omega) (y := w) (hw)) ?_;(iterate 2 refine zz ?_);refine zx ?_;refine zo ((ok_move rfl rfl).sub (bool_eq (c := true) (hok))) ?_;(iterate 3 refine zz ?_);refine Run.callH [] (RH b6 rd qo qq) [_] rfl rfl rfl rfl (rline_spec hwl hq1 hq2 (by omega) (by omega)) (gB rfl rfl rfl rfl) rfl rfl ?_
   rintro s1 H1 ⟨qo2, qq2, hr2, rfl, rfl⟩
   (iterate 2 refine zz ?_);refine zx ?_;(iterate 2 refine zz ?_);refine zzn ?_;refine zzc (fun h37 => ?_) fun h37 => ?_
   ·have hnone : lineF rd w = none := by cases hc : lineF rd w with | none => rfl | some _ => rw [hc] at h37; cases h37
    rw [hnone]
    have hP : parseF t = (([], [], []), 1) := by rw [hP1 hok, go_none (hgs.trans hnone)]
    refine T_exit ?_;refine T_seq ?_;refine T_block ?_;refine zr ?_;refine zo ((ok_move rfl rfl).sub (bool_eq (c := false) (rfl))) ?_;(iterate 2 refine zz ?_);refine zzn ?_;refine T_condT rfl rfl ?_;refine zr ?_;refine zo ((ok_build rfl rfl rfl).sub nil_qs) ?_;refine zw ?_;refine zz ?_;refine zzn ?_;refine T_ret ?_
    exact ⟨_, [], .many (.cons (.agg 0 inferInstance rfl rfl rfl rfl) (.cons (.tmp rfl) .nil)), List.nil_sublist _, by rw [hP]; rfl, rfl⟩
   ·obtain ⟨rd2, hrd⟩ : ∃ rd2, lineF rd w = some rd2 := by cases hc : lineF rd w with | none => rw [hc] at h37; cases h37 | some x => exact ⟨x, rfl⟩
    have hln := lineF_lens hrd
    rw [hrd] at hr2 ⊢
    refine T_skip ?_;refine T_region ?_;refine za ((g + 1 : Nat) : Int) ?_;refine zz ?_;refine zzn ?_
    exact ⟨g + 1, rd2, qo2, qq2, ⟨by omega, hgs.trans hrd, hr2.1, hr2.2, by omega, by omega⟩, by omega, ent_h (subG_cons rfl (subG_cons rfl (subG_cons rfl (subG_as rfl (by rw [hok]; rfl) (subG_cons rfl (subG_cons rfl (trivial))))))) rfl⟩
  ·have k27 := of_decide_eq_false h27
   obtain rfl : g = L.length := by omega
   rw [List.take_length] at hgo
   refine T_exit ?_;refine T_seq ?_;refine T_block ?_;refine zr ?_;(iterate 3 refine zz ?_);refine zzn ?_;refine zzc (fun h39 => ?_) fun h39 => ?_
   ·have hbad : lnOk t = false := by simpa using h39
    have hP := hP0 hbad
    refine zr ?_;refine zo ((ok_build rfl rfl rfl).sub nil_qs) ?_;refine zw ?_;refine zz ?_;refine zzn ?_;refine T_ret ?_
    exact ⟨_, [], .many (.cons (.agg 3 inferInstance rfl rfl rfl rfl) (.cons (.tmp rfl) .nil)), List.nil_sublist _, by rw [hP]; rfl, rfl⟩
   ·have hok : lnOk t = true := by simpa using h39
    have hP2 := hP1 hok
    rw [hgo] at hP2
    refine zr ?_;(iterate 6 refine zz ?_);refine zzn ?_;refine zzc (fun h43 => ?_) fun h43 => ?_
    ·have k43 := bne_iff_ne.1 h43
     have hP := hP2.trans (if_pos k43)
     refine T_drawMS 6 [5] _ (by kernel_rfl) (.cons_cons _ (.cons_cons _ (.cons_cons _ (.cons _ .slnil)))) ?_;refine RunE.one ((ok_build rfl rfl rfl).sub nil_qs) rfl rfl rfl (by kernel_rfl) ?_;refine RunE.lat (ok_move rfl rfl) rfl rfl rfl ?_;refine RunE.lat (ok_nilCheck_eq rfl rfl) rfl rfl rfl ?_;refine RunE.lat (ok_fieldAddr_eq rfl rfl rfl) rfl rfl rfl ?_;refine RunE.lat (ok_load_own 0 rfl rfl rfl rfl) rfl rfl rfl ?_
     refine RunE.nil ⟨_, rfl, ?_⟩
     refine .loc1n 3 (l_store rfl rfl rfl rfl (by first | decide | (simp; done) | (simp; omega))) rfl rfl rfl ?_
     rintro s1 H1 ⟨rfl, rfl⟩
     refine ⟨(.cons_cons _ (.cons_cons _ (.cons_cons _ (.cons _ .slnil)))), ?_⟩
     refine RunE.nil ?_;refine zz ?_;refine zzn ?_;refine T_ret ?_
     exact ⟨_, [], .many (.cons (.agg 3 inferInstance rfl rfl rfl rfl) (.cons (.tmp rfl) .nil)), List.nil_sublist _, by rw [hP]; rfl, rfl⟩
    ·have k43 := bne_eq_false_iff_eq.1 h43
     have hP := hP2.trans (if_neg (fun h => h k43))
     refine T_skip ?_;refine T_ghost (ghost_perm (List.perm_middle (l₁ := [_, _]) (a := _) (l₂ := [_])).symm) ?_;refine T_ghost (ghost_slo [_] [_, _] [] [_] [_] hq1 (l := rd.obs) (f := qrowC) rfl rfl (fun _ _ => rfl) (by unfold big; omega)) ?_;refine T_ghost (ghost_slo [_, _] [_] [] [] [_] hq2 (l := rd.que) (f := qqueC) rfl rfl (fun _ _ => rfl) (by unfold big; omega)) ?_;refine zr ?_;(iterate 3 refine zz ?_);refine zo ((show OpOK _ _ _ _ _ (aggS [robS rd.rob, slS 1 qrowC rd.obs, slS 12 qqueC rd.que]) from ok_load_own_agg 0 rfl rfl rfl rfl rfl).sub rob_qs) ?_;refine zw ?_;refine zz ?_;refine zzn ?_;refine T_ret ?_
     exact ⟨_, [], .many (.cons (.agg 1 inferInstance rfl rfl rfl rfl) (.cons (.tmp rfl) .nil)), List.nil_sublist _, by rw [hP]; rfl, rfl⟩
 ·have k3_1 := beq_eq_false_iff_ne.1 h3_1
  refine zz ?_;(iterate 3 refine zq ?_);refine zo ((ok_pick rfl rfl rfl).sub (bool_eq (c := lnOk t) (by cases hc : lnOk t with | false => rfl | true => exact absurd (hE1 hc) k3_1))) ?_;refine zz ?_;refine zzn ?_;refine T_seq ?_;refine T_label ?_;refine T_seq ?_;refine T_ghost (ghost_row 69 12) ?_;refine T_ghost (ghost_row 22 1) ?_;refine T_ghost (ghost_perm (List.perm_middle (l₁ := [_, _]) (a := _) (l₂ := [_]))) ?_;refine zr ?_;(iterate 3 refine zz ?_);refine zzn ?_;refine T_block ?_;refine T_loop4 (fun (g : Nat) (rd : Rd) (qo qq : Option (Nat × Nat)) => ⟨_, [(26, intS .i64 (g : Nat)), (25, intS .i64 L.length), (24, slS 1 tC L), (7, boolS (lnOk t)), (6, eqS (ptB b6)), (2, eqS (.pointer (some ⟨b2, 0, none⟩)))], RH b6 rd qo qq ++ [⟨some b2, 54, [eqS (.slice none 0 0), eqS (.slice none 0 0), eqS (.slice none 0 0)], 0⟩], [], (0, false)⟩) (fun g rd qo qq => g ≤ L.length ∧ goF (L.take g) = some rd ∧ rowOk qo rd.obs.length ∧ rowOk qq rd.que.length ∧ rd.obs.length ≤ g ∧ rd.que.length ≤ g) (fun g _ _ _ => L.length - g) 0 rd0 none none ⟨Nat.zero_le _, rfl, rfl, rfl, Nat.zero_le _, Nat.zero_le _⟩ (ent_h zk rfl) ?_
  rintro g rd qo qq ⟨hg, hgo, hq1, hq2, ho1, ho2⟩
  refine zr ?_;refine zz ?_;refine zzn ?_;refine T_seq ?_;refine zzc (fun h27 => ?_) fun h27 => ?_
  ·have k27 := of_decide_eq_true h27
   obtain ⟨w, hw⟩ : ∃ w, L[g]? = some w := ⟨_, List.getElem?_eq_getElem (by omega)⟩
   have hok : lnOk t = true := by cases hc : lnOk t with | true => rfl | false => rw [hL0 hc] at hw; cases hw
   have hwl := hLw w (List.mem_of_getElem? hw)
   have hgs := go_snoc hw hgo
   refine T_skip ?_;refine T_seq ?_;refine T_block ?_;refine zr ?_;refine zo (ok_indexAddr rfl rfl rfl (by omega) (y := w) (hw)) ?_;(iterate 2 refine zz ?_);refine zx ?_;refine zo ((ok_move rfl rfl).sub (bool_eq (c := true) (hok))) ?_;(iterate 3 refine zz ?_);refine Run.callH [] (RH b6 rd qo qq) [_] rfl rfl rfl rfl (rline_spec hwl hq1 hq2 (by omega) (by omega)) (gB rfl rfl rfl rfl) rfl rfl ?_
   rintro s1 H1 ⟨qo2, qq2, hr2, rfl, rfl⟩
   (iterate 2 refine zz ?_);refine zx ?_;(iterate 2 refine zz ?_);refine zzn ?_;refine zzc (fun h37 => ?_) fun h37 => ?_
   ·have hnone : lineF rd w = none := by cases hc : lineF rd w with | none => rfl | some _ => rw [hc] at h37; cases h37
    rw [hnone]
    have hP : parseF t = (([], [], []), 1) := by rw [hP1 hok, go_none (hgs.trans hnone)]
    refine T_exit ?_;refine T_seq ?_;refine T_block ?_;refine zr ?_;refine zo ((ok_move rfl rfl).sub (bool_eq (c := false) (rfl))) ?_;(iterate 2 refine zz ?_);refine zzn ?_;refine T_condT rfl rfl ?_;refine zr ?_;refine zo ((ok_build rfl rfl rfl).sub nil_qs) ?_;refine zw ?_;refine zz ?_;refine zzn ?_;refine T_ret ?_
    exact ⟨_, [], .many (.cons (.agg 0 inferInstance rfl rfl rfl rfl) (.cons (.tmp rfl) .nil)), List.nil_sublist _, by rw [hP]; rfl, rfl⟩
   ·obtain ⟨rd2, hrd⟩ : ∃ rd2, lineF rd w = some rd2 := by cases hc : lineF rd w with | none => rw [hc] at h37; cases h37 | some x => exact ⟨x, rfl⟩
    have hln := lineF_lens hrd
    rw [hrd] at hr2 ⊢
    refine T_skip ?_;refine T_region ?_;refine za ((g + 1 : Nat) : Int) ?_;refine zz ?_;refine zzn ?_
    exact ⟨g + 1, rd2, qo2, qq2, ⟨by omega, hgs.trans hrd, hr2.1, hr2.2, by omega, by omega⟩, by omega, ent_h (subG_cons rfl (subG_cons rfl (subG_cons rfl (subG_as rfl (by rw [hok]; rfl) (subG_cons rfl (subG_cons rfl (trivial))))))) rfl⟩
  ·have k27 := of_decide_eq_false h27
   obtain rfl : g = L.length := by omega
   rw [List.take_length] at hgo
   refine T_exit ?_;refine T_seq ?_;refine T_block ?_;refine zr ?_;(iterate 3 refine zz ?_);refine zzn ?_;refine zzc (fun h39 => ?_) fun h39 => ?_
   ·have hbad : lnOk t = false := by simpa using h39
    have hP := hP0 hbad
    refine zr ?_;refine zo ((ok_build rfl rfl rfl).sub nil_qs) ?_;refine zw ?_;refine zz ?_;refine zzn ?_;refine T_ret ?_
    exact ⟨_, [], .many (.cons (.agg 3 inferInstance rfl rfl rfl rfl) (.cons (.tmp rfl) .nil)), List.nil_sublist _, by rw [hP]; rfl, rfl⟩
   ·have hok : lnOk t = true := by simpa using h39
    have hP2 := hP1 hok
    rw [hgo] at hP2
    refine zr ?_;(iterate 6 refine zz ?_);refine zzn ?_;refine zzc (fun h43 => ?_) fun h43 => ?_
    ·have k43 := bne_iff_ne.1 h43
     have hP := hP2.trans (if_pos k43)
     refine T_drawMS 6 [5] _ (by kernel_rfl) (.cons_cons _ (.cons_cons _ (.cons_cons _ (.cons _ .slnil)))) ?_;refine RunE.one ((ok_build rfl rfl rfl).sub nil_qs) rfl rfl rfl (by kernel_rfl) ?_;refine RunE.lat (ok_move rfl rfl) rfl rfl rfl ?_;refine RunE.lat (ok_nilCheck_eq rfl rfl) rfl rfl rfl ?_;refine RunE.lat (ok_fieldAddr_eq rfl rfl rfl) rfl rfl rfl ?_;refine RunE.lat (ok_load_own 0 rfl rfl rfl rfl) rfl rfl rfl ?_
     refine RunE.nil ⟨_, rfl, ?_⟩
     refine .loc1n 3 (l_store rfl rfl rfl rfl (by first | decide | (simp; done) | (simp; omega))) rfl rfl rfl ?_
     rintro s1 H1 ⟨rfl, rfl⟩
     refine ⟨(.cons_cons _ (.cons_cons _ (.cons_cons _ (.cons _ .slnil)))), ?_⟩
     refine RunE.nil ?_;refine zz ?_;refine zzn ?_;refine T_ret ?_
     exact ⟨_, [], .many (.cons (.agg 3 inferInstance rfl rfl rfl rfl) (.cons (.tmp rfl) .nil)), List.nil_sublist _, by rw [hP]; rfl, rfl⟩
    ·have k43 := bne_eq_false_iff_eq.1 h43
     have hP := hP2.trans (if_neg (fun h => h k43))
     refine T_skip ?_;refine T_ghost (ghost_perm (List.perm_middle (l₁ := [_, _]) (a := _) (l₂ := [_])).symm) ?_;refine T_ghost (ghost_slo [_] [_, _] [] [_] [_] hq1 (l := rd.obs) (f := qrowC) rfl rfl (fun _ _ => rfl) (by unfold big; omega)) ?_;refine T_ghost (ghost_slo [_, _] [_] [] [] [_] hq2 (l := rd.que) (f := qqueC) rfl rfl (fun _ _ => rfl) (by unfold big; omega)) ?_;refine zr ?_;(iterate 3 refine zz ?_);refine zo ((show OpOK _ _ _ _ _ (aggS [robS rd.rob, slS 1 qrowC rd.obs, slS 12 qqueC rd.que]) from ok_load_own_agg 0 rfl rfl rfl rfl rfl).sub rob_qs) ?_;refine zw ?_;refine zz ?_;refine zzn ?_;refine T_ret ?_
     exact ⟨_, [], .many (.cons (.agg 1 inferInstance rfl rfl rfl rfl) (.cons (.tmp rfl) .nil)), List.nil_sublist _, by rw [hP]; rfl, rfl⟩
end Go.Proofs
