/- straitref12: a line, and a scene as a text. -/
import Derived.Test.YtofplgefmjojjaaGreatDoorScl
namespace Go.Proofs
open Go Go.Sv Num
variable {G : Imm}
theorem rline12_spec [Tab G] {w : List UInt8} {row : List RP} {k n : Nat} (hpos : 0 < k) (hk : 64 * k + 20000 ≤ 65536) (hpt : ∀ p ∈ row, PtOk k p) (hrl : row.length ≤ n) (hn : n ≤ 1000000) (hw : w.length ≤ 8) : PSpec Tryz.prog G 86 [strS w, slS 6 pc row] (strS (lnT w (pvs row))) := by
 have htx : ∀ p ∈ pvs row, (txtF p.1).length ≤ 50000 ∧ (txtF p.2).length ≤ 50000 := fun p hp => by
  obtain ⟨r, hr, rfl⟩ := List.mem_map.1 hp
  have ho := hpt r hr
  exact ⟨txt_le (isQ_lim ho.1 hpos).bq (by omega), txt_le (isQ_lim ho.2 hpos).bq (by omega)⟩
 have hll := lnT_len hw htx
 have hm : (pvs row).length * 100002 ≤ 1000000 * 100002 := Nat.mul_le_mul_right _ (by unfold pvs; rw [List.length_map]; omega)
 have hlx : lnT w (pvs row) = Lib.join (rowW w (pvs row)) [32] ++ [10] := rfl
 refine fn_spec Tryz.func86 rfl rfl rfl ?_
 refine T_regionS ?_
 refine zz ?_
 refine zx ?_
 refine zz ?_
 refine Run.buildRow rfl rfl rfl rfl rfl rfl (by decide) rfl (.inr (by simp)) rfl (by kernel_rfl) fun b8 hb8 => ?_
 refine zz ?_
 refine Run.nil ?_
 refine T_seq ?_
 refine T_regionS ?_
 refine zz ?_
 refine Run.nil ?_
 refine T_block ?_
 refine T_len 1 rfl fun la => ?_
 unfold big at la
 refine T_loop2 (fun (g : Nat) (q : Option (Nat × Nat)) => ⟨_, [(6, intS .i64 (g : Nat)), (5, eqS (rowV q (2 * g + 1))), (1, slS 6 pc row)], [rowE q 9 1 (2 * g + 1) ((rowW w (pvs (row.take g))).flatMap tC)], [], (0, false)⟩) (fun g q => g ≤ row.length ∧ rowOk q (2 * g + 1)) (fun g _ => row.length - g) 0 (some (b8, 1)) ⟨Nat.zero_le _, hb8⟩ (ent_h zk rfl) ?_
 rintro g q ⟨hg, hq⟩
 refine T_seq ?_
 refine T_regionS ?_
 iterate 4 refine zz ?_
 refine Run.nil ?_
 refine T_cond rfl rfl (fun h12 => ?_) (fun h12 => ?_)
 ·have k12 := of_decide_eq_true h12
  obtain ⟨⟨⟨b, l, d⟩, ⟨c, m, e⟩⟩, hp⟩ : ∃ p, row[g]? = some p := ⟨_, List.getElem?_eq_getElem (by omega)⟩
  have ho := hpt _ (List.mem_of_getElem? hp)
  have i1 : IsQ b l d (qv (b, l, d)) k := isQ_lim ho.1 hpos
  have i2 : IsQ c m e (qv (c, m, e)) k := isQ_lim ho.2 hpos
  have ib1 := i1.bq
  have ib2 := i2.bq
  have hrt := rowW_take (w := w) hp
  refine T_skip ?_
  refine T_seq ?_
  refine T_block ?_
  refine T_drawM 15 [14] _ (by kernel_rfl) (.cons _ .slnil) ?_
  iterate 3 refine RunE.one (ok_move rfl rfl) rfl rfl rfl (by kernel_rfl) ?_
  refine RunE.one (ok_indexAddr rfl rfl rfl (by omega) (y := ((b, l, d), (c, m, e))) (hp)) rfl rfl rfl (by kernel_rfl) ?_
  refine RunE.one (ok_fieldAddr rfl rfl rfl) rfl rfl rfl (by kernel_rfl) ?_
  refine RunE.one ((show OpOK _ _ _ _ _ (aggS [boolS b, natS l, natS d]) from ok_load_agg rfl rfl rfl rfl)) rfl rfl rfl (by kernel_rfl) ?_
  refine RunE.one (ok_call rfl rfl (rltext_spec (q := qv (b, l, d)) (k := k) hk)) rfl rfl rfl (by kernel_rfl) ?_
  iterate 2 refine RunE.one (ok_move rfl rfl) rfl rfl rfl (by kernel_rfl) ?_
  refine RunE.one (ok_indexAddr rfl rfl rfl (by omega) (y := ((b, l, d), (c, m, e))) (hp)) rfl rfl rfl (by kernel_rfl) ?_
  refine RunE.one (ok_fieldAddr rfl rfl rfl) rfl rfl rfl (by kernel_rfl) ?_
  refine RunE.one ((show OpOK _ _ _ _ _ (aggS [boolS c, natS m, natS e]) from ok_load_agg rfl rfl rfl rfl)) rfl rfl rfl (by kernel_rfl) ?_
  refine RunE.one (ok_call rfl rfl (rltext_spec (q := qv (c, m, e)) (k := k) hk)) rfl rfl rfl (by kernel_rfl) ?_
  refine RunE.one (ok_buildSlice rfl rfl (by decide) rfl (by simp) rfl rfl) rfl rfl rfl (by kernel_rfl) ?_
  refine RunE.nil ⟨_, rfl, ?_⟩
  refine EffM.append 0 rfl rfl rfl rfl rfl rfl rfl hq (by rw [flat_tC, rowW_len]; unfold pvs; rw [List.length_map, List.length_take]; omega) (fun z hz => by rcases List.mem_cons.1 hz with rfl | hz; rfl; rw [List.mem_singleton.1 hz]; rfl) (by unfold big; simp; omega) (by unfold big; simp; omega) fun q29 hq29 => ⟨(.cons _ .slnil), ?_⟩
  refine RunE.nil ?_
  refine zz ?_
  refine Run.nil ?_
  refine T_region ?_
  refine zz ?_
  refine za ((g + 1 : Nat) : Int) ?_
  refine zz ?_
  refine Run.nil ?_
  exact ⟨g + 1, q29, ⟨by omega, hq29⟩, by omega, ent_h (subG_cons rfl (subG_cons rfl (subG_cons rfl (trivial)))) (by rw [hrt, List.flatMap_append]; rfl)⟩
 ·have k12 := of_decide_eq_false h12
  obtain rfl : g = row.length := by omega
  rw [List.take_length]
  refine T_exit ?_
  refine T_ghost (ghost_sl 0 5 rfl rfl hq (l := rowW w (pvs row)) (f := tC) (by rw [rowW_len]; simp [pvs]) rfl (fun _ _ => rfl) (by unfold big; omega)) ?_
  refine T_regionS ?_
  refine zz ?_
  refine zo (ok_call rfl rfl (rjoin_spec (by rw [hlx, List.length_append] at hll; simp only [List.length_singleton] at hll; omega))) ?_
  refine zo ((ok_add_str rfl rfl rfl (by rw [hlx, List.length_append] at hll; simp only [List.length_singleton] at hll ⊢; omega)).sub (str_eq hlx.symm)) ?_
  refine zz ?_
  refine Run.nil ?_
  refine T_ret ?_
  exact ⟨_, [], .one (.tmp rfl), List.nil_sublist _, rfl, rfl⟩
theorem rprint12_spec [Tab G] {s : Sc} {k n : Nat} (h : ScOk s k n) (hk : 64 * k + 20000 ≤ 65536) (hn : n ≤ 1000000) : PSpec Tryz.prog G 44 [aggS (scC s)] (strS (scT s)) := by
 have hrob := h.pt _ (mem_rob s)
 have hrl := h.lrow (mem_rob s)
 have hsl := h.row
 have hlen := h.len
 rw [scL_len] at hsl
 simp only at hrob hrl
 have hsz : (scL s).length * 9 + (scPts s).length * 100002 ≤ 1000000 * 9 + 1000000 * 100002 := Nat.add_le_add (Nat.mul_le_mul_right _ (by rw [scL_len]; omega)) (Nat.mul_le_mul_right _ (by omega))
 refine fn_spec Tryz.func44 rfl rfl rfl ?_
 refine T_regionS ?_
 iterate 2 refine zz ?_
 refine zx ?_
 iterate 2 refine zz ?_
 refine zo (ok_call rfl rfl (rline12_spec h.pos hk hrob hrl hn (by decide))) ?_
 refine zz ?_
 refine Run.nil ?_
 refine T_seq ?_
 refine T_regionS ?_
 refine zz ?_
 refine Run.nil ?_
 refine T_block ?_
 refine T_loop (γ := Nat) (fun g => ⟨_, [(4, intS .i64 (g : Nat)), (3, strS (((scL s).take (g + 1)).flatMap lnX)), (1, ptrS (scC s))], [], [], (0, false)⟩) (fun g => g ≤ s.2.1.length) (fun g => s.2.1.length - g) 0 (Nat.zero_le _) (ent_g (subG_cons rfl (subG_as rfl (by simp [scL, lnX]) (subG_cons rfl (trivial))))) ?_
 rintro g hg
 refine T_seq ?_
 refine T_regionS ?_
 iterate 5 refine zz ?_
 refine Run.nil ?_
 refine T_cond rfl rfl (fun h13 => ?_) (fun h13 => ?_)
 ·have k13 := of_decide_eq_true h13
  obtain ⟨l, hlr⟩ : ∃ l, s.2.1[g]? = some l := ⟨_, List.getElem?_eq_getElem (by omega)⟩
  have hlm := mem_obs (List.mem_of_getElem? hlr)
  have hpt := h.pt _ hlm
  have hll := h.lrow hlm
  simp only at hpt hll
  have hst := flat_succ lnX (scL_obs hlr)
  have htx := h.text (by omega) (g + 1 + 1)
  rw [hst, show lnX (wObs, l) = lnT wObs (pvs l) from rfl] at htx
  rw [show lnX (wObs, l) = lnT wObs (pvs l) from rfl] at hst
  refine T_skip ?_
  refine T_seq ?_
  refine T_block ?_
  refine T_region ?_
  iterate 4 refine zz ?_
  refine zo (ok_indexAddr rfl rfl rfl (by omega) (y := l) (hlr)) ?_
  refine zz ?_
  refine zo (ok_call rfl rfl (rline12_spec h.pos hk hpt hll hn (by decide))) ?_
  refine zo ((ok_add_str rfl rfl rfl (by rw [List.length_append] at htx; omega)).sub (str_eq hst.symm)) ?_
  refine zz ?_
  refine Run.nil ?_
  refine T_region ?_
  refine zz ?_
  refine za ((g + 1 : Nat) : Int) ?_
  refine zz ?_
  refine Run.nil ?_
  exact ⟨g + 1, by omega, by omega, ent_g (subG_cons rfl (subG_cons rfl (subG_cons rfl (trivial))))⟩
 ·have k13 := of_decide_eq_false h13
  obtain rfl : g = s.2.1.length := by omega
  refine T_exit ?_
  refine T_seq ?_
  refine T_regionS ?_
  refine zz ?_
  refine Run.nil ?_
  refine T_block ?_
  refine T_loop (γ := Nat) (fun g => ⟨_, [(5, intS .i64 (g : Nat)), (3, strS (((scL s).take (s.2.1.length + g + 1)).flatMap lnX)), (1, ptrS (scC s))], [], [], (0, false)⟩) (fun g => g ≤ s.2.2.length) (fun g => s.2.2.length - g) 0 (Nat.zero_le _) (ent_g zk) ?_
  rintro g hg
  refine T_seq ?_
  refine T_regionS ?_
  iterate 5 refine zz ?_
  refine Run.nil ?_
  refine T_cond rfl rfl (fun h28 => ?_) (fun h28 => ?_)
  ·have k28 := of_decide_eq_true h28
   obtain ⟨⟨⟨⟨b1, l1, d1⟩, ⟨c1, m1, e1⟩⟩, ⟨⟨b2, l2, d2⟩, ⟨c2, m2, e2⟩⟩⟩, hqr⟩ : ∃ q, s.2.2[g]? = some q := ⟨_, List.getElem?_eq_getElem (by omega)⟩
   have hqm := mem_que (List.mem_of_getElem? hqr)
   have hpt := h.pt _ hqm
   simp only at hpt
   have hst := flat_succ lnX (scL_que hqr)
   have htx := h.text (by omega) (s.2.1.length + g + 1 + 1)
   rw [hst, show lnX (wQue, [((b1, l1, d1), (c1, m1, e1)), ((b2, l2, d2), (c2, m2, e2))]) = lnT wQue (pvs [((b1, l1, d1), (c1, m1, e1)), ((b2, l2, d2), (c2, m2, e2))]) from rfl] at htx
   rw [show lnX (wQue, [((b1, l1, d1), (c1, m1, e1)), ((b2, l2, d2), (c2, m2, e2))]) = lnT wQue (pvs [((b1, l1, d1), (c1, m1, e1)), ((b2, l2, d2), (c2, m2, e2))]) from rfl] at hst
   refine T_skip ?_
   refine T_seq ?_
   refine T_block ?_
   refine T_draw 17 (by kernel_rfl) ?_
   iterate 4 refine zz ?_
   refine zo (ok_indexAddr rfl rfl rfl (by omega) (y := (((b1, l1, d1), (c1, m1, e1)), ((b2, l2, d2), (c2, m2, e2)))) (hqr)) ?_
   refine zz ?_
   refine zo ((show OpOK _ _ _ _ _ (aggS (pc ((b1, l1, d1), (c1, m1, e1)))) from ok_load_agg rfl rfl rfl rfl)) ?_
   iterate 3 refine zz ?_
   refine zo (ok_indexAddr rfl rfl rfl (by omega) (y := (((b1, l1, d1), (c1, m1, e1)), ((b2, l2, d2), (c2, m2, e2)))) (hqr)) ?_
   refine zz ?_
   refine zo ((show OpOK _ _ _ _ _ (aggS (pc ((b2, l2, d2), (c2, m2, e2)))) from ok_load_agg rfl rfl rfl rfl)) ?_
   refine zo (ok_buildSlice rfl rfl (by decide) rfl (by simp) rfl rfl) ?_
   refine zo (ok_call rfl rfl ((rline12_spec (row := [((b1, l1, d1), (c1, m1, e1)), ((b2, l2, d2), (c2, m2, e2))]) (n := 2) h.pos hk hpt (by simp) (by decide) (by decide)).args ⟨fun _ _ h => h, fun I v h => sl_map (f := pc) (l := [((b1, l1, d1), (c1, m1, e1)), ((b2, l2, d2), (c2, m2, e2))]) h, trivial⟩)) ?_
   refine zo ((ok_add_str rfl rfl rfl (by rw [List.length_append] at htx; omega)).sub (str_eq hst.symm)) ?_
   refine zz ?_
   iterate 2 refine Run.nil ?_
   refine T_region ?_
   refine zz ?_
   refine za ((g + 1 : Nat) : Int) ?_
   refine zz ?_
   refine Run.nil ?_
   exact ⟨g + 1, by omega, by omega, ent_g (subG_cons rfl (subG_cons rfl (subG_cons rfl (trivial))))⟩
  ·have k28 := of_decide_eq_false h28
   obtain rfl : g = s.2.2.length := by omega
   have hsc : ((scL s).take (s.2.1.length + s.2.2.length + 1)).flatMap lnX = scT s := by unfold scT; rw [← scL_len, List.take_length]
   refine T_exit ?_
   refine T_regionS ?_
   iterate 2 refine zz ?_
   refine Run.nil ?_
   refine T_ret ?_
   exact ⟨_, [], .one (.tmp rfl), List.nil_sublist _, congrArg strS hsc, rfl⟩
end Go.Proofs
/- The law SceneWords: texts that are none, plain facts. -/
namespace Num
open Go Go.Lib Go.Proofs
end Num
namespace Go.Proofs
open Go Go.Sv Num
end Go.Proofs
namespace Go.Sv
open Go Go.RowKit
variable {P : Program} {G : Imm} {H : HL} {o : Oper} {g : List (Nat × SV)} {s : SV}
end Go.Sv
/- The law SceneWords, on the facts. -/
namespace Go.Proofs
open Go Go.Sv Num
variable {G : Imm}
end Go.Proofs
