/- straitref12: a line, and a scene as a text. -/
import Derived.Test.YtcdlcfihjfhkgaaGreatDoorScl
namespace Go.Proofs
open Go Go.Sv Num
variable {G : Imm}
theorem rline12_spec [Tab G] {w : List UInt8} {row : List RP} {k n : Nat} (hpos : 0 < k) (hk : 64 * k + 20000 ≤ 65536) (hpt : ∀ p ∈ row, PtOk k p) (hrl : row.length ≤ n) (hn : n ≤ 1000000) (hw : w.length ≤ 8) : PSpec Tryz.prog G 78 [strS w, slS 6 pc row] (strS (lnT w (pvs row))) := by
  have htx : ∀ p ∈ pvs row, (txtF p.1).length ≤ 50000 ∧ (txtF p.2).length ≤ 50000 := fun p hp => by
    obtain ⟨r, hr, rfl⟩ := List.mem_map.1 hp
    have ho := hpt r hr
    exact ⟨txt_le (isQ_lim ho.1 hpos).bq (by omega), txt_le (isQ_lim ho.2 hpos).bq (by omega)⟩
  have hll := lnT_len hw htx
  have hm : (pvs row).length * 100002 ≤ 1000000 * 100002 := Nat.mul_le_mul_right _ (by unfold pvs; rw [List.length_map]; omega)
  have hlx : lnT w (pvs row) = Lib.join (rowW w (pvs row)) [32] ++ [10] := rfl
  refine fn_spec Tryz.func78 rfl rfl rfl ?_
  refine T_regionS ?_
  refine Run.one (ok_assign rfl rfl) rfl rfl rfl ?_
  refine Run.nil ?_
  refine T_regionS ?_
  refine Run.one (ok_move rfl rfl) rfl rfl rfl ?_
  refine Run.buildRow rfl rfl rfl rfl rfl rfl (by decide) rfl (.inr (by simp)) rfl (by kernel_rfl) fun b8 hb8 => ?_
  refine Run.one (ok_assign rfl rfl) rfl rfl rfl ?_
  refine Run.nil ?_
  refine T_seq ?_
  refine T_regionS ?_
  refine Run.one (ok_assign rfl rfl) rfl rfl rfl ?_
  refine Run.nil ?_
  refine T_block ?_
  refine T_len 1 rfl fun la => ?_
  unfold big at la
  refine T_loop2 (fun (g : Nat) (q : Option (Nat × Nat)) => ⟨_, [(6, intS .i64 (g : Nat)), (5, eqS (rowV q (2 * g + 1))), (1, slS 6 pc row)], [rowE q 9 1 (2 * g + 1) ((rowW w (pvs (row.take g))).flatMap tC)], [], (0, false)⟩) (fun g q => g ≤ row.length ∧ rowOk q (2 * g + 1)) (fun g _ => row.length - g) 0 (some (b8, 1)) ⟨Nat.zero_le _, hb8⟩ (ent_h (subG_cons rfl (subG_cons rfl (subG_cons rfl (trivial)))) rfl) ?_
  rintro g q ⟨hg, hq⟩
  refine T_seq ?_
  refine T_regionS ?_
  iterate 2 refine Run.one (ok_move rfl rfl) rfl rfl rfl ?_
  refine Run.one (ok_len rfl rfl) rfl rfl rfl ?_
  refine Run.one (ok_cmp rfl rfl rfl rfl) rfl rfl rfl ?_
  refine Run.nil ?_
  refine T_cond rfl rfl (fun h12 => ?_) (fun h12 => ?_)
  · have k12 := of_decide_eq_true h12
    obtain ⟨⟨⟨b, l, d⟩, ⟨c, m, e⟩⟩, hp⟩ : ∃ p, row[g]? = some p := ⟨_, List.getElem?_eq_getElem (by omega)⟩
    have ho := hpt _ (List.mem_of_getElem? hp)
    have i1 : IsQ b l d (qv (b, l, d)) k := isQ_lim ho.1 hpos
    have i2 : IsQ c m e (qv (c, m, e)) k := isQ_lim ho.2 hpos
    have ib1 := i1.bq
    have ib2 := i2.bq
    have hrt := rowW_take (w := w) hp
    refine T_skip ?_
    refine T_seq ?_
    refine T_block ?_
    refine T_drawM 15 [14] _ (by kernel_rfl) (.cons _ .slnil) ?_
    iterate 3 refine RunE.one (ok_move rfl rfl) rfl rfl rfl (by kernel_rfl) ?_
    refine RunE.one (ok_indexAddr rfl rfl rfl (by omega) (y := ((b, l, d), (c, m, e))) (hp)) rfl rfl rfl (by kernel_rfl) ?_
    refine RunE.one (ok_fieldAddr rfl rfl rfl) rfl rfl rfl (by kernel_rfl) ?_
    refine RunE.one ((show OpOK _ _ _ _ _ (aggS [boolS b, natS l, natS d]) from ok_load_agg rfl rfl rfl rfl)) rfl rfl rfl (by kernel_rfl) ?_
    refine RunE.one (ok_call rfl rfl (rltext_spec (q := qv (b, l, d)) (k := k) hk)) rfl rfl rfl (by kernel_rfl) ?_
    iterate 2 refine RunE.one (ok_move rfl rfl) rfl rfl rfl (by kernel_rfl) ?_
    refine RunE.one (ok_indexAddr rfl rfl rfl (by omega) (y := ((b, l, d), (c, m, e))) (hp)) rfl rfl rfl (by kernel_rfl) ?_
    refine RunE.one (ok_fieldAddr rfl rfl rfl) rfl rfl rfl (by kernel_rfl) ?_
    refine RunE.one ((show OpOK _ _ _ _ _ (aggS [boolS c, natS m, natS e]) from ok_load_agg rfl rfl rfl rfl)) rfl rfl rfl (by kernel_rfl) ?_
    refine RunE.one (ok_call rfl rfl (rltext_spec (q := qv (c, m, e)) (k := k) hk)) rfl rfl rfl (by kernel_rfl) ?_
    refine RunE.one (ok_buildSlice rfl rfl (by decide) rfl (by simp) rfl rfl) rfl rfl rfl (by kernel_rfl) ?_
    refine RunE.nil ⟨_, rfl, ?_⟩
    refine EffM.append 0 rfl rfl rfl rfl rfl rfl rfl hq (by rw [flat_tC, rowW_len]; unfold pvs; rw [List.length_map, List.length_take]; omega) (fun z hz => by rcases List.mem_cons.1 hz with rfl | hz; rfl; rw [List.mem_singleton.1 hz]; rfl) (by unfold big; simp; omega) (by unfold big; simp; omega) fun q29 hq29 => ⟨(.cons _ .slnil), ?_⟩
    refine RunE.nil ?_
    refine Run.one (ok_assign rfl rfl) rfl rfl rfl ?_
    refine Run.nil ?_
    refine T_region ?_
    refine Run.one (ok_move rfl rfl) rfl rfl rfl ?_
    refine Run.one (ok_ari (z := ((g + 1 : Nat) : Int)) rfl rfl rfl (congrArg some (by omega)) (wrap_i64 (by omega) (by omega))) rfl rfl rfl ?_
    refine Run.one (ok_assign rfl rfl) rfl rfl rfl ?_
    refine Run.nil ?_
    exact ⟨g + 1, q29, ⟨by omega, hq29⟩, by omega, ent_h (subG_cons rfl (subG_cons rfl (subG_cons rfl (trivial)))) (by rw [hrt, List.flatMap_append]; rfl)⟩
  · have k12 := of_decide_eq_false h12
    obtain rfl : g = row.length := by omega
    rw [List.take_length]
    refine T_exit ?_
    refine T_ghost (ghost_sl 0 5 rfl rfl hq (l := rowW w (pvs row)) (f := tC) (by rw [rowW_len]; simp [pvs]) rfl (fun _ _ => rfl) (by unfold big; omega)) ?_
    refine T_regionS ?_
    refine Run.one (ok_move rfl rfl) rfl rfl rfl ?_
    refine Run.one (ok_call rfl rfl (rjoin_spec (by rw [hlx, List.length_append] at hll; simp only [List.length_singleton] at hll; omega))) rfl rfl rfl ?_
    refine Run.one ((ok_add_str rfl rfl rfl (by rw [hlx, List.length_append] at hll; simp only [List.length_singleton] at hll ⊢; omega)).sub (str_eq hlx.symm)) rfl rfl rfl ?_
    refine Run.one (ok_assign rfl rfl) rfl rfl rfl ?_
    refine Run.nil ?_
    refine T_ret ?_
    exact ⟨_, [], .one (.tmp rfl), List.nil_sublist _, rfl, rfl⟩
theorem rprint12_spec [Tab G] {s : Sc} {k n : Nat} (h : ScOk s k n) (hk : 64 * k + 20000 ≤ 65536) (hn : n ≤ 1000000) : PSpec Tryz.prog G 35 [aggS (scC s)] (strS (scT s)) := by
  have hrob := h.pt _ (mem_rob s)
  have hrl := h.lrow (mem_rob s)
  have hsl := h.row
  have hlen := h.len
  rw [scL_len] at hsl
  simp only at hrob hrl
  have hsz : (scL s).length * 9 + (scPts s).length * 100002 ≤ 1000000 * 9 + 1000000 * 100002 := Nat.add_le_add (Nat.mul_le_mul_right _ (by rw [scL_len]; omega)) (Nat.mul_le_mul_right _ (by omega))
  refine fn_spec Tryz.func35 rfl rfl rfl ?_
  refine T_regionS ?_
  refine Run.one (ok_box rfl rfl) rfl rfl rfl ?_
  refine Run.one (ok_assign rfl rfl) rfl rfl rfl ?_
  refine Run.nil ?_
  refine T_regionS ?_
  refine Run.one (ok_fieldAddr rfl rfl rfl) rfl rfl rfl ?_
  refine Run.one (ok_load rfl rfl) rfl rfl rfl ?_
  refine Run.one (ok_call rfl rfl (rline12_spec h.pos hk hrob hrl hn (by decide))) rfl rfl rfl ?_
  refine Run.one (ok_assign rfl rfl) rfl rfl rfl ?_
  refine Run.nil ?_
  refine T_seq ?_
  refine T_regionS ?_
  refine Run.one (ok_assign rfl rfl) rfl rfl rfl ?_
  refine Run.nil ?_
  refine T_block ?_
  refine T_loop (γ := Nat) (fun g => ⟨_, [(4, intS .i64 (g : Nat)), (3, strS (((scL s).take (g + 1)).flatMap lnX)), (1, ptrS (scC s))], [], [], (0, false)⟩) (fun g => g ≤ s.2.1.length) (fun g => s.2.1.length - g) 0 (Nat.zero_le _) (ent_g (subG_cons rfl (subG_as rfl (by simp [scL, lnX]) (subG_cons rfl (trivial))))) ?_
  rintro g hg
  refine T_seq ?_
  refine T_regionS ?_
  refine Run.one (ok_move rfl rfl) rfl rfl rfl ?_
  refine Run.one (ok_fieldAddr rfl rfl rfl) rfl rfl rfl ?_
  refine Run.one (ok_load rfl rfl) rfl rfl rfl ?_
  refine Run.one (ok_len rfl rfl) rfl rfl rfl ?_
  refine Run.one (ok_cmp rfl rfl rfl rfl) rfl rfl rfl ?_
  refine Run.nil ?_
  refine T_cond rfl rfl (fun h13 => ?_) (fun h13 => ?_)
  · have k13 := of_decide_eq_true h13
    obtain ⟨l, hlr⟩ : ∃ l, s.2.1[g]? = some l := ⟨_, List.getElem?_eq_getElem (by omega)⟩
    have hlm := mem_obs (List.mem_of_getElem? hlr)
    have hpt := h.pt _ hlm
    have hll := h.lrow hlm
    simp only at hpt hll
    have hst := flat_succ lnX (scL_obs hlr)
    have htx := h.text (by omega) (g + 1 + 1)
    rw [hst, show lnX (wObs, l) = lnT wObs (pvs l) from rfl] at htx
    rw [show lnX (wObs, l) = lnT wObs (pvs l) from rfl] at hst
    refine T_skip ?_
    refine T_seq ?_
    refine T_block ?_
    refine T_region ?_
    refine Run.one (ok_move rfl rfl) rfl rfl rfl ?_
    refine Run.one (ok_fieldAddr rfl rfl rfl) rfl rfl rfl ?_
    refine Run.one (ok_load rfl rfl) rfl rfl rfl ?_
    refine Run.one (ok_move rfl rfl) rfl rfl rfl ?_
    refine Run.one (ok_indexAddr rfl rfl rfl (by omega) (y := l) (hlr)) rfl rfl rfl ?_
    refine Run.one (ok_load rfl rfl) rfl rfl rfl ?_
    refine Run.one (ok_call rfl rfl (rline12_spec h.pos hk hpt hll hn (by decide))) rfl rfl rfl ?_
    refine Run.one ((ok_add_str rfl rfl rfl (by rw [List.length_append] at htx; omega)).sub (str_eq hst.symm)) rfl rfl rfl ?_
    refine Run.one (ok_assign rfl rfl) rfl rfl rfl ?_
    refine Run.nil ?_
    refine T_region ?_
    refine Run.one (ok_move rfl rfl) rfl rfl rfl ?_
    refine Run.one (ok_ari (z := ((g + 1 : Nat) : Int)) rfl rfl rfl (congrArg some (by omega)) (wrap_i64 (by omega) (by omega))) rfl rfl rfl ?_
    refine Run.one (ok_assign rfl rfl) rfl rfl rfl ?_
    refine Run.nil ?_
    exact ⟨g + 1, by omega, by omega, ent_g (subG_cons rfl (subG_cons rfl (subG_cons rfl (trivial))))⟩
  · have k13 := of_decide_eq_false h13
    obtain rfl : g = s.2.1.length := by omega
    refine T_exit ?_
    refine T_seq ?_
    refine T_regionS ?_
    refine Run.one (ok_assign rfl rfl) rfl rfl rfl ?_
    refine Run.nil ?_
    refine T_block ?_
    refine T_loop (γ := Nat) (fun g => ⟨_, [(5, intS .i64 (g : Nat)), (3, strS (((scL s).take (s.2.1.length + g + 1)).flatMap lnX)), (1, ptrS (scC s))], [], [], (0, false)⟩) (fun g => g ≤ s.2.2.length) (fun g => s.2.2.length - g) 0 (Nat.zero_le _) (ent_g (subG_cons rfl (subG_cons rfl (subG_cons rfl (trivial))))) ?_
    rintro g hg
    refine T_seq ?_
    refine T_regionS ?_
    refine Run.one (ok_move rfl rfl) rfl rfl rfl ?_
    refine Run.one (ok_fieldAddr rfl rfl rfl) rfl rfl rfl ?_
    refine Run.one (ok_load rfl rfl) rfl rfl rfl ?_
    refine Run.one (ok_len rfl rfl) rfl rfl rfl ?_
    refine Run.one (ok_cmp rfl rfl rfl rfl) rfl rfl rfl ?_
    refine Run.nil ?_
    refine T_cond rfl rfl (fun h28 => ?_) (fun h28 => ?_)
    · have k28 := of_decide_eq_true h28
      obtain ⟨⟨⟨⟨b1, l1, d1⟩, ⟨c1, m1, e1⟩⟩, ⟨⟨b2, l2, d2⟩, ⟨c2, m2, e2⟩⟩⟩, hqr⟩ : ∃ q, s.2.2[g]? = some q := ⟨_, List.getElem?_eq_getElem (by omega)⟩
      have hqm := mem_que (List.mem_of_getElem? hqr)
      have hpt := h.pt _ hqm
      simp only at hpt
      have hst := flat_succ lnX (scL_que hqr)
      have htx := h.text (by omega) (s.2.1.length + g + 1 + 1)
      rw [hst, show lnX (wQue, [((b1, l1, d1), (c1, m1, e1)), ((b2, l2, d2), (c2, m2, e2))]) = lnT wQue (pvs [((b1, l1, d1), (c1, m1, e1)), ((b2, l2, d2), (c2, m2, e2))]) from rfl] at htx
      rw [show lnX (wQue, [((b1, l1, d1), (c1, m1, e1)), ((b2, l2, d2), (c2, m2, e2))]) = lnT wQue (pvs [((b1, l1, d1), (c1, m1, e1)), ((b2, l2, d2), (c2, m2, e2))]) from rfl] at hst
      refine T_skip ?_
      refine T_seq ?_
      refine T_block ?_
      refine T_draw 17 (by kernel_rfl) ?_
      refine Run.one (ok_move rfl rfl) rfl rfl rfl ?_
      refine Run.one (ok_fieldAddr rfl rfl rfl) rfl rfl rfl ?_
      refine Run.one (ok_load rfl rfl) rfl rfl rfl ?_
      refine Run.one (ok_move rfl rfl) rfl rfl rfl ?_
      refine Run.one (ok_indexAddr rfl rfl rfl (by omega) (y := (((b1, l1, d1), (c1, m1, e1)), ((b2, l2, d2), (c2, m2, e2)))) (hqr)) rfl rfl rfl ?_
      refine Run.one (ok_fieldAddr rfl rfl rfl) rfl rfl rfl ?_
      refine Run.one ((show OpOK _ _ _ _ _ (aggS (pc ((b1, l1, d1), (c1, m1, e1)))) from ok_load_agg rfl rfl rfl rfl)) rfl rfl rfl ?_
      refine Run.one (ok_fieldAddr rfl rfl rfl) rfl rfl rfl ?_
      refine Run.one (ok_load rfl rfl) rfl rfl rfl ?_
      refine Run.one (ok_move rfl rfl) rfl rfl rfl ?_
      refine Run.one (ok_indexAddr rfl rfl rfl (by omega) (y := (((b1, l1, d1), (c1, m1, e1)), ((b2, l2, d2), (c2, m2, e2)))) (hqr)) rfl rfl rfl ?_
      refine Run.one (ok_fieldAddr rfl rfl rfl) rfl rfl rfl ?_
      refine Run.one ((show OpOK _ _ _ _ _ (aggS (pc ((b2, l2, d2), (c2, m2, e2)))) from ok_load_agg rfl rfl rfl rfl)) rfl rfl rfl ?_
      refine Run.one (ok_buildSlice rfl rfl (by decide) rfl (by simp) rfl rfl) rfl rfl rfl ?_
      refine Run.one (ok_call rfl rfl ((rline12_spec (row := [((b1, l1, d1), (c1, m1, e1)), ((b2, l2, d2), (c2, m2, e2))]) (n := 2) h.pos hk hpt (by simp) (by decide) (by decide)).args ⟨fun _ _ h => h, fun I v h => sl_map (f := pc) (l := [((b1, l1, d1), (c1, m1, e1)), ((b2, l2, d2), (c2, m2, e2))]) h, trivial⟩)) rfl rfl rfl ?_
      refine Run.one ((ok_add_str rfl rfl rfl (by rw [List.length_append] at htx; omega)).sub (str_eq hst.symm)) rfl rfl rfl ?_
      refine Run.one (ok_assign rfl rfl) rfl rfl rfl ?_
      iterate 2 refine Run.nil ?_
      refine T_region ?_
      refine Run.one (ok_move rfl rfl) rfl rfl rfl ?_
      refine Run.one (ok_ari (z := ((g + 1 : Nat) : Int)) rfl rfl rfl (congrArg some (by omega)) (wrap_i64 (by omega) (by omega))) rfl rfl rfl ?_
      refine Run.one (ok_assign rfl rfl) rfl rfl rfl ?_
      refine Run.nil ?_
      exact ⟨g + 1, by omega, by omega, ent_g (subG_cons rfl (subG_cons rfl (subG_cons rfl (trivial))))⟩
    · have k28 := of_decide_eq_false h28
      obtain rfl : g = s.2.2.length := by omega
      have hsc : ((scL s).take (s.2.1.length + s.2.2.length + 1)).flatMap lnX = scT s := by unfold scT; rw [← scL_len, List.take_length]
      refine T_exit ?_
      refine T_regionS ?_
      refine Run.one (ok_move rfl rfl) rfl rfl rfl ?_
      refine Run.one (ok_assign rfl rfl) rfl rfl rfl ?_
      refine Run.nil ?_
      refine T_ret ?_
      exact ⟨_, [], .one (.tmp rfl), List.nil_sublist _, congrArg strS hsc, rfl⟩
end Go.Proofs
/- The law SceneWords: texts that are none, plain facts. -/
namespace Num
open Go Go.Lib Go.Proofs
abbrev XL := List UInt8 × List (Rat × Rat)
def txX (xs : List XL) : List UInt8 := nl (xs.map lineT)
theorem txX_app (a b : List XL) : txX (a ++ b) = txX a ++ txX b := by unfold txX nl; rw [List.map_append, List.flatMap_append]
def rX (q : QS) : List XL := [(wRob, q.1)]
def wX (q : QS) : List XL := q.2.1.map fun l => (wObs, l)
def uX (q : QS) : List XL := q.2.2.map fun x => (wQue, [x.1, x.2])
theorem prT_parts (q : QS) : prT q = txX (rX q) ++ txX (wX q) ++ txX (uX q) := by
  unfold prT
  rw [← txX_app, ← txX_app, List.append_assoc]; rfl
theorem rX_wd (q : QS) : ∀ x ∈ rX q, wdOk x.1 := fun x hx => by rw [List.mem_singleton.1 hx]; exact wd_rob
theorem wX_wd (q : QS) : ∀ x ∈ wX q, wdOk x.1 := fun x hx => by obtain ⟨l, _, rfl⟩ := List.mem_map.1 hx; exact wd_obs
theorem uX_wd (q : QS) : ∀ x ∈ uX q, wdOk x.1 := fun x hx => by obtain ⟨l, _, rfl⟩ := List.mem_map.1 hx; exact wd_que
theorem app_wd {a b : List XL} (ha : ∀ x ∈ a, wdOk x.1) (hb : ∀ x ∈ b, wdOk x.1) : ∀ x ∈ a ++ b, wdOk x.1 := fun x hx => (List.mem_append.1 hx).elim (ha x) (hb x)
theorem step_rob {rd : Rd} {l : List (Rat × Rat)} (h : rd.rob ≠ []) : stepX (some rd) (wRob, l) = none := by
  show lineW rd wRob _ = none
  unfold lineW
  split
  · simp [doF, h]
  · rfl
theorem step_obs {rd : Rd} {l : List (Rat × Rat)} (h : rd.rob = [] ∨ rd.que ≠ []) : stepX (some rd) (wObs, l) = none := by
  show lineW rd wObs _ = none
  unfold lineW
  split
  · unfold doF
    rw [if_neg (by decide), if_pos rfl, if_pos h]
  · rfl
theorem one_of {t : List UInt8} {xs : List XL} (e : t = txX xs) (hne : xs ≠ []) (hw : ∀ x ∈ xs, wdOk x.1) (h : xs.foldl stepX (some rd0) = none) : (parseF t).2 = 1 := by
  subst e; unfold txX; rw [parse_nl hne hw, h]; rfl
theorem bad_ln {t : List UInt8} (h : lnOk t = false) : (parseF t).2 = 1 := by unfold parseF; rw [h]; rfl
theorem first_none {x : XL} {xs : List XL} {o : Option Rd} (h : stepX o x = none) : (x :: xs).foldl stepX o = none := by rw [List.foldl_cons, h]; exact stepX_none xs
theorem after_rob {q : QS} (hR : q.1 ≠ []) (h : P60 q.1) : (rX q).foldl stepX (some rd0) = some ⟨q.1, [], [], big3 ((0 : Int) = 3 ∨ 6 < dgF 0 q.1)⟩ := by
  show lineW rd0 wRob (q.1.flatMap ptT) = _
  rw [line_ok hR h (.inl rfl)]
  unfold doF
  rw [if_pos rfl]
  exact (if_pos rfl).trans rfl
theorem cut_last {t : List UInt8} (h : lnOk t = true) : lnOk (t.take (t.length - 1)) = false := by
  rcases suffix_cases t 10 with ⟨r, rfl, _, _⟩ | ⟨h1, _, _⟩
  · rw [List.length_append, List.length_singleton, Nat.add_sub_cancel, List.take_left]
    rw [(lnOk_snoc r).1] at h
    rcases suffix_cases r 10 with ⟨r', rfl, _, _⟩ | ⟨h1, _, _⟩
    · rw [spl_snoc, ful_snoc] at h; cases h
    · unfold lnOk; rw [h1]; rfl
  · unfold lnOk at h; rw [h1] at h; cases h
theorem more_last {t : List UInt8} (h : lnOk t = true) : lnOk (t ++ [10]) = false := by
  rw [(lnOk_snoc t).1]
  rcases suffix_cases t 10 with ⟨r', rfl, _, _⟩ | ⟨h1, _, _⟩
  · rw [spl_snoc, ful_snoc]
  · unfold lnOk at h; rw [h1] at h; cases h
theorem blank_last (t : List UInt8) : lnOk (t ++ [32]) = false := by
  rcases suffix_cases (t ++ [32]) 10 with ⟨r', h, _, _⟩ | ⟨h1, _, _⟩
  · have := List.append_inj_right' h rfl
    cases this
  · unfold lnOk; rw [h1]; rfl
theorem one_lines {ws : List (List UInt8)} (hne : ws ≠ []) (h : ∀ w ∈ ws, w ≠ [] ∧ ∀ c ∈ w, c ≠ 10) (hg : ws.foldl stepF (some rd0) = none) : (parseF (nl ws)).2 = 1 := by
  obtain ⟨h1, h2⟩ := lines_nl hne (List.all_eq_true.2 fun w hw => by
    have := (h w hw).1
    cases hh : w with
    | nil => exact absurd hh this
    | cons _ _ => rfl) (fun w hw => (h w hw).2)
  unfold parseF
  rw [if_pos h1, h2]
  unfold goF
  rw [hg]
theorem lines_of {xs : List XL} (hw : ∀ x ∈ xs, wdOk x.1) : ∀ w ∈ xs.map lineT, w ≠ [] ∧ ∀ c ∈ w, c ≠ 10 := fun w h => by
  obtain ⟨x, hx, rfl⟩ := List.mem_map.1 h
  exact line_wd (hw x hx) x.2
theorem blank_first (rd : Rd) (l : List UInt8) : lineF rd (32 :: l) = none := by
  unfold lineF
  have : spl 32 (32 :: l) = [] :: spl 32 l := by rw [spl, if_pos rfl]
  rw [this]; rfl
abbrev wallT : List UInt8 := [119, 97, 108, 108, 32, 49, 32, 49]
theorem wall_line (rd : Rd) : lineF rd wallT = none := by
  unfold lineF
  rw [show spl 32 wallT = [[119, 97, 108, 108], [49], [49]] by decide]
  show (if ful [[119, 97, 108, 108], [49], [49]] = true then lineW rd [119, 97, 108, 108] [[49], [49]] else none) = none
  rw [if_pos (by decide)]
  unfold lineW
  split
  · unfold doF
    rw [if_neg (by decide), if_neg (by decide), if_neg (by decide)]
  · rfl
def badL (R W U T : List UInt8) : List (List UInt8) := [W ++ R ++ U, R ++ U ++ W, R ++ T, W ++ U, T.take (T.length - 1), T ++ [10], T ++ [32], [32] ++ T, R ++ (wallT ++ [10])]
theorem bads {q : QS} (hR : q.1 ≠ []) (hW : q.2.1 ≠ []) (hU : q.2.2 ≠ []) (h60 : P60 (qsPts q)) : ∀ b ∈ badL (txX (rX q)) (txX (wX q)) (txX (uX q)) (txX (rX q) ++ txX (wX q) ++ txX (uX q)), (parseF b).2 = 1 := by
  obtain ⟨h1, h2⟩ := P60_app h60
  obtain ⟨_, h4⟩ := P60_app h2
  obtain ⟨x, ws, hx⟩ : ∃ x ws, wX q = (wObs, x) :: ws := by
    unfold wX
    cases ho : q.2.1 with
    | nil => exact absurd ho hW
    | cons x r => exact ⟨x, _, rfl⟩
  have hr := after_rob hR h1
  have hu := fold_que (que := q.2.2) (rd := ⟨q.1, [], [], big3 ((0 : Int) = 3 ∨ 6 < dgF 0 q.1)⟩) hR (big3_or _) (fun x hx p hp => h4 p (List.mem_flatMap.2 ⟨x, hx, hp⟩))
  have eT : txX (rX q) ++ txX (wX q) ++ txX (uX q) = txX (rX q ++ wX q ++ uX q) := by rw [txX_app, txX_app]
  have hwd := app_wd (app_wd (rX_wd q) (wX_wd q)) (uX_wd q)
  have hlines := lines_of hwd
  have hok : lnOk (txX (rX q ++ wX q ++ uX q)) = true := (lines_nl (by simp [rX]) (List.all_eq_true.2 fun w hw => by
    have := (hlines w hw).1
    cases hh : w with
    | nil => exact absurd hh this
    | cons _ _ => rfl) (fun w hw => (hlines w hw).2)).1
  intro b hb
  unfold badL at hb
  simp only [List.mem_cons, List.not_mem_nil, or_false] at hb
  rcases hb with rfl | rfl | rfl | rfl | rfl | rfl | rfl | rfl | rfl
  · refine one_of (xs := wX q ++ rX q ++ uX q) (by rw [txX_app, txX_app]) (by simp [rX]) (app_wd (app_wd (wX_wd q) (rX_wd q)) (uX_wd q)) ?_
    rw [hx, List.cons_append, List.cons_append]
    exact first_none (step_obs (.inl rfl))
  · refine one_of (xs := rX q ++ uX q ++ wX q) (by rw [txX_app, txX_app]) (by simp [rX]) (app_wd (app_wd (rX_wd q) (uX_wd q)) (wX_wd q)) ?_
    rw [List.foldl_append, List.foldl_append, hr]
    unfold uX
    rw [hu, hx]
    exact first_none (step_obs (.inr (by simpa using hU)))
  · refine one_of (xs := rX q ++ (rX q ++ wX q ++ uX q)) (by rw [txX_app (rX q), eT]) (by simp [rX]) (app_wd (rX_wd q) hwd) ?_
    rw [List.foldl_append, hr]
    unfold rX
    exact first_none (step_rob hR)
  · refine one_of (xs := wX q ++ uX q) (by rw [txX_app]) (by rw [hx]; simp) (app_wd (wX_wd q) (uX_wd q)) ?_
    rw [hx]
    exact first_none (step_obs (.inl rfl))
  · rw [eT]; exact bad_ln (cut_last hok)
  · rw [eT]; exact bad_ln (more_last hok)
  · exact bad_ln (blank_last _)
  · rw [eT]
    have e : [32] ++ txX (rX q ++ wX q ++ uX q) = nl ((32 :: lineT (wRob, q.1)) :: (wX q ++ uX q).map lineT) := by
      unfold txX nl rX; simp
    rw [e]
    have hl1 := line_wd wd_rob q.1
    refine one_lines (by simp) (fun w hw => ?_) ?_
    · rcases List.mem_cons.1 hw with rfl | hw
      · exact ⟨by simp, fun c hc => by rcases List.mem_cons.1 hc with rfl | hc; decide; exact hl1.2 c hc⟩
      · exact lines_of (app_wd (wX_wd q) (uX_wd q)) w hw
    · rw [List.foldl_cons, show stepF (some rd0) (32 :: lineT (wRob, q.1)) = none from blank_first rd0 (lineT (wRob, q.1))]; exact step_none _
  · have e : txX (rX q) ++ (wallT ++ [10]) = nl [lineT (wRob, q.1), wallT] := by
      unfold txX nl rX; simp
    rw [e]
    refine one_lines (by simp) (fun w hw => ?_) ?_
    · rcases List.mem_cons.1 hw with rfl | hw
      · exact line_wd wd_rob q.1
      · rw [List.mem_singleton.1 hw]; decide
    · rw [List.foldl_cons, List.foldl_cons, List.foldl_nil]
      show stepF (stepF (some rd0) (lineT (wRob, q.1))) wallT = none
      cases stepF (some rd0) (lineT (wRob, q.1)) with
      | none => rfl
      | some rd => exact wall_line rd
theorem goods {q : QS} (hR : q.1 ≠ []) (h60 : P60 (qsPts q)) (h6 : ¬ 6 < dgF 0 (qsPts q)) : (parseF (txX (rX q) ++ txX (uX q))).2 = 0 ∧ (parseF (txX (rX q))).2 = 0 := by
  have p6 : ∀ p ∈ qsPts q, ¬ 6 < nD p.1 ∧ ¬ 6 < nD p.2 := fun p hp => ⟨fun e => h6 (dgF_gt.2 ⟨p, hp, .inl e⟩), fun e => h6 (dgF_gt.2 ⟨p, hp, .inr e⟩)⟩
  have sub : ∀ q' : QS, (∀ p ∈ qsPts q', p ∈ qsPts q) → q'.1 ≠ [] → q'.2.1 = [] → (parseF (prT q')).2 = 0 := fun q' hs h1 h2 => by
    rw [parse_good h1 (by rw [h2]; intro l hl; cases hl) (fun p hp => h60 p (hs p hp)), if_neg]
    intro e
    obtain ⟨p, hp, e⟩ := dgF_gt.1 e
    have := p6 p (hs p hp)
    omega
  refine ⟨?_, ?_⟩
  · have := sub (q.1, [], q.2.2) (fun p hp => by
      unfold qsPts at hp ⊢
      rcases List.mem_append.1 hp with hp | hp
      · exact List.mem_append.2 (.inl hp)
      · rcases List.mem_append.1 hp with hp | hp
        · cases hp
        · exact List.mem_append.2 (.inr (List.mem_append.2 (.inr hp)))) hR rfl
    rw [prT_parts] at this
    have e : txX (wX (q.1, [], q.2.2)) = [] := rfl
    rw [e, List.append_nil] at this
    exact this
  · have := sub (q.1, [], []) (fun p hp => by
      unfold qsPts at hp ⊢
      rcases List.mem_append.1 hp with hp | hp
      · exact List.mem_append.2 (.inl hp)
      · cases hp) hR rfl
    rw [prT_parts] at this
    have e : txX (wX (q.1, [], [])) = [] := rfl
    have e2 : txX (uX (q.1, [], [])) = [] := rfl
    rw [e, e2, List.append_nil, List.append_nil] at this
    exact this
theorem part_end {t : List UInt8} {k : Nat} (hk : k ≤ t.length) (h : (parseF (t.take k)).2 = 0) : k ≠ 0 ∧ t[k - 1]? = some 10 := by
  have h1 := ((parse_facts (t.take k)).1 h).2.2.2.2
  rcases suffix_cases (t.take k) 10 with ⟨r, hr, _, _⟩ | ⟨h2, _, _⟩
  · have hl : (t.take k).length = r.length + 1 := by rw [hr, List.length_append, List.length_singleton]
    rw [List.length_take, Nat.min_eq_left hk] at hl
    refine ⟨by omega, ?_⟩
    have : (t.take k)[k - 1]? = some 10 := by rw [hr, show k - 1 = r.length by omega]; simp
    rwa [List.getElem?_take_of_lt (by omega)] at this
  · unfold lnOk at h1; rw [h2] at h1; cases h1
theorem head_txt (xs : List XL) : txX ((wRob, []) :: xs) = wRob ++ [10] ++ txX xs := by
  unfold txX nl; rw [List.map_cons, List.flatMap_cons]; rfl
end Num
namespace Go.Proofs
open Go Go.Sv Num
theorem scT_rob (s : Sc) : scT (s.1, [], []) = txX (rX (nrm s)) := by
  rw [scT_eq, prT_parts, show txX (wX (nrm (s.1, [], []))) = [] from rfl, show txX (uX (nrm (s.1, [], []))) = [] from rfl, List.append_nil, List.append_nil]; rfl
theorem scT_obs (s : Sc) : scT ([], s.2.1, []) = wRob ++ [10] ++ txX (wX (nrm s)) := by
  rw [scT_eq, prT_parts, show txX (uX (nrm ([], s.2.1, []))) = [] from rfl, List.append_nil, ← txX_app]
  exact head_txt _
theorem scT_que (s : Sc) : scT ([], [], s.2.2) = wRob ++ [10] ++ txX (uX (nrm s)) := by
  rw [scT_eq, prT_parts, show txX (wX (nrm ([], [], s.2.2))) = [] from rfl, List.append_nil, ← txX_app]
  exact head_txt _
theorem scT_all (s : Sc) : scT s = txX (rX (nrm s)) ++ txX (wX (nrm s)) ++ txX (uX (nrm s)) := by rw [scT_eq, prT_parts]
theorem part_ok {s t : Sc} {k n : Nat} (h : ScOk s k n) (hs : ∀ x ∈ scL t, (∃ y ∈ scL s, x.2 = y.2) ∨ x.2 = []) (h1 : (scPts t).length ≤ (scPts s).length) (h2 : (scL t).length ≤ (scL s).length) : ScOk t k n := by
  refine ⟨h.pos, fun x hx p hp => ?_, Nat.le_trans h1 h.len, Nat.le_trans h2 h.row⟩
  rcases hs x hx with ⟨y, hy, e⟩ | e
  · exact h.pt y hy p (e ▸ hp)
  · rw [e] at hp; cases hp
theorem ok_obsA {s : Sc} {k n : Nat} (h : ScOk s k n) : ScOk ([], s.2.1, []) k n := by
  refine part_ok h (fun x hx => ?_) ?_ ?_
  · unfold scL at hx
    simp only [List.map_nil, List.append_nil] at hx
    rcases List.mem_cons.1 hx with rfl | hx
    · exact .inr rfl
    · obtain ⟨l, hl, rfl⟩ := List.mem_map.1 hx
      exact .inl ⟨_, mem_obs hl, rfl⟩
  · rw [scPts_eq, scPts_eq]; simp; omega
  · rw [scL_len, scL_len]; simp
theorem ok_queA {s : Sc} {k n : Nat} (h : ScOk s k n) : ScOk ([], [], s.2.2) k n := by
  refine part_ok h (fun x hx => ?_) ?_ ?_
  · unfold scL at hx
    simp only [List.map_nil, List.nil_append] at hx
    rcases List.mem_cons.1 hx with rfl | hx
    · exact .inr rfl
    · obtain ⟨l, hl, rfl⟩ := List.mem_map.1 hx
      exact .inl ⟨_, mem_que hl, rfl⟩
  · rw [scPts_eq, scPts_eq, List.length_append, List.length_append, List.length_append, List.length_append]; simp only [List.length_nil, List.flatten_nil]; omega
  · rw [scL_len, scL_len]; simp
theorem nrm_ne {s : Sc} : (s.1.length ≠ 0 → (nrm s).1 ≠ []) ∧ (s.2.1.length ≠ 0 → (nrm s).2.1 ≠ []) ∧ (s.2.2.length ≠ 0 → (nrm s).2.2 ≠ []) := by
  refine ⟨fun h e => h ?_, fun h e => h ?_, fun h e => h ?_⟩
  · have := congrArg List.length e; simpa [nrm, pvs] using this
  · have := congrArg List.length e; simpa [nrm] using this
  · have := congrArg List.length e; simpa [nrm] using this
theorem rX_len (q : QS) : 0 < (txX (rX q)).length := by unfold txX nl rX; simp
theorem badL_len {R W U : List UInt8} (h : R.length + W.length + U.length ≤ 60000000) : ∀ b ∈ badL R W U (R ++ W ++ U), b.length ≤ 1000000000 := by
  intro b hb
  unfold badL at hb
  simp only [List.mem_cons, List.not_mem_nil, or_false] at hb
  rcases hb with rfl | rfl | rfl | rfl | rfl | rfl | rfl | rfl | rfl <;> simp only [List.length_append, List.length_take, List.length_cons, List.length_nil] <;> omega
theorem ring_ok {z : Int} {n : Nat} (h : 0 < n) : -(n : Int) < z.tmod n ∧ z.tmod n < n := by
  refine ⟨?_, Int.tmod_lt_of_pos z (by omega)⟩
  have := Int.lt_tmod_of_pos z (show (0 : Int) < n by omega)
  omega
end Go.Proofs
namespace Go.Sv
open Go Go.RowKit
variable {P : Program} {G : Imm} {H : HL} {o : Oper} {g : List (Nat × SV)} {s : SV}
theorem ok_trem {t u : TypeId} {x y : Operand} {k : IntKind} {m n : Int} (hop : o.op = .binOp .rem t x y u) (hx : opE g x = some (intS k m)) (hy : opE g y = some (intS k n)) (hn : n ≠ 0) :
    OpOK P G H o g (intS k (m.tmod n)) :=
  ok_pure (by simp [hop]) fun I W a _ _ hr => by
    have h1 : a.eval x = .int k m := hr.get (by simp [hop, Op.operands]) hx
    have h2 : a.eval y = .int k n := hr.get (by simp [hop, Op.operands]) hy
    refine ⟨.int k (m.tmod n), ?_, rfl⟩
    simp [execOp, hop, h1, h2, eqGuard, binOp, Op.intDiv, hn]
end Go.Sv
/- The law SceneWords, on the facts. -/
namespace Go.Proofs
open Go Go.Sv Num
variable {G : Imm}
theorem sceneWords_spec [Tab G] [Tab10 G] [MaxLen G] {s : Sc} {at0 : Int} (hl : ScLim s) : PSpec Tryz.prog G 7 [aggS (scC s), intS .i64 at0] (boolS true) := by
  refine fn_spec Tryz.func7 rfl rfl rfl ?_
  refine T_regionS ?_
  refine Run.one (ok_box rfl rfl) rfl rfl rfl ?_
  refine Run.one (ok_assign rfl rfl) rfl rfl rfl ?_
  refine Run.nil ?_
  refine T_seq ?_
  refine T_regionS ?_
  refine Run.one (ok_load_agg rfl rfl rfl rfl) rfl rfl rfl ?_
  refine Run.oneB (ok_call rfl rfl great12_spec) rfl rfl rfl (fun h1_1 => ?_) (fun h1_1 => ?_)
  · refine Run.one (ok_move rfl rfl) rfl rfl rfl ?_
    iterate 3 refine Run.no (gB rfl rfl rfl rfl) rfl rfl ?_
    refine Run.one (ok_pick rfl rfl rfl) rfl rfl rfl ?_
    refine Run.one (ok_move rfl rfl) rfl rfl rfl ?_
    iterate 4 refine Run.no (gB rfl rfl rfl rfl) rfl rfl ?_
    refine Run.one (ok_pick rfl rfl rfl) rfl rfl rfl ?_
    refine Run.one (ok_move rfl rfl) rfl rfl rfl ?_
    iterate 4 refine Run.no (gB rfl rfl rfl rfl) rfl rfl ?_
    refine Run.one (ok_pick rfl rfl rfl) rfl rfl rfl ?_
    refine Run.one (ok_move rfl rfl) rfl rfl rfl ?_
    iterate 4 refine Run.no (gB rfl rfl rfl rfl) rfl rfl ?_
    refine Run.one (ok_pick rfl rfl rfl) rfl rfl rfl ?_
    refine Run.nil ?_
    refine T_condT rfl rfl ?_
    refine T_regionS ?_
    refine Run.one (ok_call rfl rfl wakes12_spec) rfl rfl rfl ?_
    refine Run.one (ok_assign rfl rfl) rfl rfl rfl ?_
    refine Run.nil ?_
    refine T_ret ?_
    exact ⟨_, [], .one (.tmp rfl), List.nil_sublist _, rfl, rfl⟩
  · have hok := gr_ok hl (of_decide_eq_false h1_1)
    have hdg := rdigits_spec (G := G) hok (by decide) (by decide)
    refine Run.one (ok_move rfl rfl) rfl rfl rfl ?_
    refine Run.one (ok_load_agg rfl rfl rfl rfl) (gB rfl rfl rfl rfl) rfl rfl ?_
    refine Run.one (ok_call rfl rfl hdg) (gB rfl rfl rfl rfl) rfl rfl ?_
    refine Run.one (ok_cmp rfl rfl rfl rfl) (gB rfl rfl rfl rfl) rfl rfl ?_
    refine Run.oneB (ok_pick rfl rfl rfl) rfl rfl rfl (fun h1_6 => ?_) (fun h1_6 => ?_)
    · have k1_6 := of_decide_eq_true h1_6
      refine Run.one (ok_move rfl rfl) rfl rfl rfl ?_
      iterate 4 refine Run.no (gB rfl rfl rfl rfl) rfl rfl ?_
      refine Run.one (ok_pick rfl rfl rfl) rfl rfl rfl ?_
      refine Run.one (ok_move rfl rfl) rfl rfl rfl ?_
      iterate 4 refine Run.no (gB rfl rfl rfl rfl) rfl rfl ?_
      refine Run.one (ok_pick rfl rfl rfl) rfl rfl rfl ?_
      refine Run.one (ok_move rfl rfl) rfl rfl rfl ?_
      iterate 4 refine Run.no (gB rfl rfl rfl rfl) rfl rfl ?_
      refine Run.one (ok_pick rfl rfl rfl) rfl rfl rfl ?_
      refine Run.nil ?_
      refine T_condT rfl rfl ?_
      refine T_regionS ?_
      refine Run.one (ok_call rfl rfl wakes12_spec) rfl rfl rfl ?_
      refine Run.one (ok_assign rfl rfl) rfl rfl rfl ?_
      refine Run.nil ?_
      refine T_ret ?_
      exact ⟨_, [], .one (.tmp rfl), List.nil_sublist _, rfl, rfl⟩
    · have k1_6 := of_decide_eq_false h1_6
      refine Run.one (ok_move rfl rfl) rfl rfl rfl ?_
      refine Run.one (ok_fieldAddr rfl rfl rfl) (gB rfl rfl rfl rfl) rfl rfl ?_
      refine Run.one (ok_load rfl rfl) (gB rfl rfl rfl rfl) rfl rfl ?_
      refine Run.one (ok_len rfl rfl) (gB rfl rfl rfl rfl) rfl rfl ?_
      refine Run.one (ok_cmp rfl rfl rfl rfl) (gB rfl rfl rfl rfl) rfl rfl ?_
      refine Run.oneB (ok_pick rfl rfl rfl) rfl rfl rfl (fun h1_12 => ?_) (fun h1_12 => ?_)
      · have k1_12 := beq_iff_eq.1 h1_12
        refine Run.one (ok_move rfl rfl) rfl rfl rfl ?_
        iterate 4 refine Run.no (gB rfl rfl rfl rfl) rfl rfl ?_
        refine Run.one (ok_pick rfl rfl rfl) rfl rfl rfl ?_
        refine Run.one (ok_move rfl rfl) rfl rfl rfl ?_
        iterate 4 refine Run.no (gB rfl rfl rfl rfl) rfl rfl ?_
        refine Run.one (ok_pick rfl rfl rfl) rfl rfl rfl ?_
        refine Run.nil ?_
        refine T_condT rfl rfl ?_
        refine T_regionS ?_
        refine Run.one (ok_call rfl rfl wakes12_spec) rfl rfl rfl ?_
        refine Run.one (ok_assign rfl rfl) rfl rfl rfl ?_
        refine Run.nil ?_
        refine T_ret ?_
        exact ⟨_, [], .one (.tmp rfl), List.nil_sublist _, rfl, rfl⟩
      · have k1_12 := beq_eq_false_iff_ne.1 h1_12
        refine Run.one (ok_move rfl rfl) rfl rfl rfl ?_
        refine Run.one (ok_fieldAddr rfl rfl rfl) (gB rfl rfl rfl rfl) rfl rfl ?_
        refine Run.one (ok_load rfl rfl) (gB rfl rfl rfl rfl) rfl rfl ?_
        refine Run.one (ok_len rfl rfl) (gB rfl rfl rfl rfl) rfl rfl ?_
        refine Run.one (ok_cmp rfl rfl rfl rfl) (gB rfl rfl rfl rfl) rfl rfl ?_
        refine Run.oneB (ok_pick rfl rfl rfl) rfl rfl rfl (fun h1_18 => ?_) (fun h1_18 => ?_)
        · have k1_18 := beq_iff_eq.1 h1_18
          refine Run.one (ok_move rfl rfl) rfl rfl rfl ?_
          iterate 4 refine Run.no (gB rfl rfl rfl rfl) rfl rfl ?_
          refine Run.one (ok_pick rfl rfl rfl) rfl rfl rfl ?_
          refine Run.nil ?_
          refine T_condT rfl rfl ?_
          refine T_regionS ?_
          refine Run.one (ok_call rfl rfl wakes12_spec) rfl rfl rfl ?_
          refine Run.one (ok_assign rfl rfl) rfl rfl rfl ?_
          refine Run.nil ?_
          refine T_ret ?_
          exact ⟨_, [], .one (.tmp rfl), List.nil_sublist _, rfl, rfl⟩
        · have k1_18 := beq_eq_false_iff_ne.1 h1_18
          refine Run.one (ok_move rfl rfl) rfl rfl rfl ?_
          refine Run.one (ok_fieldAddr rfl rfl rfl) (gB rfl rfl rfl rfl) rfl rfl ?_
          refine Run.one (ok_load rfl rfl) (gB rfl rfl rfl rfl) rfl rfl ?_
          refine Run.one (ok_len rfl rfl) (gB rfl rfl rfl rfl) rfl rfl ?_
          refine Run.one (ok_cmp rfl rfl rfl rfl) (gB rfl rfl rfl rfl) rfl rfl ?_
          refine Run.one (ok_pick rfl rfl rfl) rfl rfl rfl ?_
          refine Run.nil ?_
          refine T_cond rfl rfl (fun h45 => ?_) (fun h45 => ?_)
          · have k45 := beq_iff_eq.1 h45
            refine T_regionS ?_
            refine Run.one (ok_call rfl rfl wakes12_spec) rfl rfl rfl ?_
            refine Run.one (ok_assign rfl rfl) rfl rfl rfl ?_
            refine Run.nil ?_
            refine T_ret ?_
            exact ⟨_, [], .one (.tmp rfl), List.nil_sublist _, rfl, rfl⟩
          · have k45 := beq_eq_false_iff_ne.1 h45
            obtain ⟨n1, n2, n3⟩ := nrm_ne (s := s)
            have hR := n1 (by omega)
            have hW := n2 (by omega)
            have hU := n3 (by omega)
            have hpe := qsPts_nrm s
            have h6 : ¬ 6 < dgF 0 (qsPts (nrm s)) := by rw [hpe]; omega
            have h60 : P60 (qsPts (nrm s)) := P60_of (by omega)
            have hbad := bads hR hW hU h60
            obtain ⟨hg1, hg2⟩ := goods hR h60 h6
            have eR := scT_rob s
            have eW := scT_obs s
            have eU := scT_que s
            have eT := scT_all s
            have htl := text_le hok (by decide)
            have hR0 := rX_len (nrm s)
            have hrw := hok.row
            rw [scL_len] at hrw
            obtain ⟨R, hRe⟩ : ∃ R, R = txX (rX (nrm s)) := ⟨_, rfl⟩
            obtain ⟨W, hWe⟩ : ∃ W, W = txX (wX (nrm s)) := ⟨_, rfl⟩
            obtain ⟨U, hUe⟩ : ∃ U, U = txX (uX (nrm s)) := ⟨_, rfl⟩
            rw [← hRe] at eR hR0 hg1 hg2 hbad eT
            rw [← hWe] at eW hbad eT
            rw [← hUe] at eU hbad eT hg1
            rw [eT] at htl
            have hTl : (R ++ W ++ U).length = R.length + W.length + U.length := by rw [List.length_append, List.length_append]
            have hbl := badL_len (R := R) (W := W) (U := U) (by omega)
            obtain ⟨r1, r2⟩ := ring_ok (z := at0) (n := (R ++ W ++ U).length) (by omega)
            obtain ⟨m, hm⟩ : ∃ m, m = at0.tmod ((R ++ W ++ U).length : Nat) := ⟨_, rfl⟩
            rw [← hm] at r1 r2
            obtain ⟨K, hK⟩ : ∃ K : Nat, K = ((m + ((R ++ W ++ U).length : Nat)) % ((R ++ W ++ U).length : Nat)).toNat := ⟨_, rfl⟩
            have hK0 := Int.emod_nonneg (m + ((R ++ W ++ U).length : Nat)) (show (((R ++ W ++ U).length : Nat) : Int) ≠ 0 by omega)
            have hK1 := Int.emod_lt_of_pos (m + ((R ++ W ++ U).length : Nat)) (show (0 : Int) < ((R ++ W ++ U).length : Nat) by omega)
            have hKe : (m + ((R ++ W ++ U).length : Nat)) % ((R ++ W ++ U).length : Nat) = ((K : Nat) : Int) := by rw [hK]; exact (Int.toNat_of_nonneg hK0).symm
            rw [hKe] at hK1
            refine T_skip ?_
            refine T_seq ?_
            refine T_regionS ?_
            refine Run.one (ok_assign rfl rfl) rfl rfl rfl ?_
            refine Run.nil ?_
            refine T_block ?_
            refine T_loop (γ := Nat) (fun g => ⟨_, [(5, intS .i64 (g : Nat)), (2, ptrS (scC s)), (1, intS .i64 at0)], [], [], (0, false)⟩) (fun g => g ≤ s.2.1.length) (fun g => s.2.1.length - g) 0 (Nat.zero_le _) (ent_g (subG_cons rfl (subG_cons rfl (subG_cons rfl (trivial))))) ?_
            rintro g hg
            refine T_seq ?_
            refine T_regionS ?_
            refine Run.one (ok_move rfl rfl) rfl rfl rfl ?_
            refine Run.one (ok_fieldAddr rfl rfl rfl) rfl rfl rfl ?_
            refine Run.one (ok_load rfl rfl) rfl rfl rfl ?_
            refine Run.one (ok_len rfl rfl) rfl rfl rfl ?_
            refine Run.one (ok_cmp rfl rfl rfl rfl) rfl rfl rfl ?_
            refine Run.nil ?_
            refine T_cond rfl rfl (fun h51 => ?_) (fun h51 => ?_)
            · have k51 := of_decide_eq_true h51
              obtain ⟨l, hlr⟩ : ∃ l, s.2.1[g]? = some l := ⟨_, List.getElem?_eq_getElem (by omega)⟩
              refine T_skip ?_
              refine T_seq ?_
              refine T_block ?_
              refine T_regionS ?_
              refine Run.one (ok_fieldAddr rfl rfl rfl) rfl rfl rfl ?_
              refine Run.one (ok_load rfl rfl) rfl rfl rfl ?_
              refine Run.one (ok_move rfl rfl) rfl rfl rfl ?_
              refine Run.one (ok_indexAddr rfl rfl rfl (by omega) (y := l) (hlr)) rfl rfl rfl ?_
              refine Run.one (ok_load rfl rfl) rfl rfl rfl ?_
              refine Run.one (ok_len rfl rfl) rfl rfl rfl ?_
              refine Run.one (ok_cmp rfl rfl rfl rfl) rfl rfl rfl ?_
              refine Run.nil ?_
              refine T_cond rfl rfl (fun h60 => ?_) (fun h60 => ?_)
              · have k60 := beq_iff_eq.1 h60
                refine T_regionS ?_
                refine Run.one (ok_call rfl rfl wakes12_spec) rfl rfl rfl ?_
                refine Run.one (ok_assign rfl rfl) rfl rfl rfl ?_
                refine Run.nil ?_
                refine T_ret ?_
                exact ⟨_, [], .one (.tmp rfl), List.nil_sublist _, rfl, rfl⟩
              · have k60 := beq_eq_false_iff_ne.1 h60
                refine T_skip ?_
                refine T_region ?_
                refine Run.one (ok_move rfl rfl) rfl rfl rfl ?_
                refine Run.one (ok_ari (z := ((g + 1 : Nat) : Int)) rfl rfl rfl (congrArg some (by omega)) (wrap_i64 (by omega) (by omega))) rfl rfl rfl ?_
                refine Run.one (ok_assign rfl rfl) rfl rfl rfl ?_
                refine Run.nil ?_
                exact ⟨g + 1, by omega, by omega, ent_g (subG_cons rfl (subG_cons rfl (subG_cons rfl (trivial))))⟩
            · have k51 := of_decide_eq_false h51
              refine T_exit ?_
              refine T_regionS ?_
              refine Run.one (ok_load_agg rfl rfl rfl rfl) rfl rfl rfl ?_
              refine Run.one ((ok_call rfl rfl (sprint_spec hok (by decide) (by decide))).sub (str_eq eT)) rfl rfl rfl ?_
              refine Run.one (ok_assign rfl rfl) rfl rfl rfl ?_
              refine Run.nil ?_
              refine T_seq ?_
              refine T_regionS ?_
              refine Run.one (ok_move rfl rfl) rfl rfl rfl ?_
              refine Run.one (ok_len_str rfl rfl) rfl rfl rfl ?_
              refine Run.one (ok_cmp rfl rfl rfl rfl) rfl rfl rfl ?_
              refine Run.nil ?_
              refine T_cond rfl rfl (fun h66 => ?_) (fun h66 => ?_)
              · have k66 := beq_iff_eq.1 h66
                exact absurd k66 (by omega)
              · have k66 := beq_eq_false_iff_ne.1 h66
                refine T_skip ?_
                refine T_regionS ?_
                refine Run.one (ok_fieldAddr rfl rfl rfl) rfl rfl rfl ?_
                refine Run.one (ok_load rfl rfl) rfl rfl rfl ?_
                refine Run.one ((ok_build rfl rfl rfl).sub sc_rob) rfl rfl rfl ?_
                refine Run.one ((ok_call rfl rfl (rprint12_spec (ok_rob hok) (by decide) (by decide))).sub (str_eq eR)) rfl rfl rfl ?_
                refine Run.one (ok_assign rfl rfl) rfl rfl rfl ?_
                refine Run.nil ?_
                refine T_regionS ?_
                refine Run.one (ok_fieldAddr rfl rfl rfl) rfl rfl rfl ?_
                refine Run.one (ok_load rfl rfl) rfl rfl rfl ?_
                refine Run.one ((ok_build rfl rfl rfl).sub sc_que) rfl rfl rfl ?_
                refine Run.one ((ok_call rfl rfl (rprint12_spec (ok_queA hok) (by decide) (by decide))).sub (str_eq eU)) rfl rfl rfl ?_
                refine Run.one ((ok_slice_str (lo := 6) (hi := (wRob ++ [10] ++ U).length) rfl rfl (.inr ⟨_, _, rfl, rfl⟩) (.inl ⟨rfl, rfl⟩) (by simp) (Nat.le_refl _)).sub (str_eq (by rw [List.take_length]))) rfl rfl rfl ?_
                refine Run.one (ok_assign rfl rfl) rfl rfl rfl ?_
                refine Run.nil ?_
                refine T_regionS ?_
                refine Run.one (ok_fieldAddr rfl rfl rfl) rfl rfl rfl ?_
                refine Run.one (ok_load rfl rfl) rfl rfl rfl ?_
                refine Run.one ((ok_build rfl rfl rfl).sub sc_obs) rfl rfl rfl ?_
                refine Run.one ((ok_call rfl rfl (rprint12_spec (ok_obsA hok) (by decide) (by decide))).sub (str_eq eW)) rfl rfl rfl ?_
                refine Run.one ((ok_slice_str (lo := 6) (hi := (wRob ++ [10] ++ W).length) rfl rfl (.inr ⟨_, _, rfl, rfl⟩) (.inl ⟨rfl, rfl⟩) (by simp) (Nat.le_refl _)).sub (str_eq (by rw [List.take_length]))) rfl rfl rfl ?_
                refine Run.one (ok_assign rfl rfl) rfl rfl rfl ?_
                refine Run.nil ?_
                refine T_seq ?_
                refine T_regionS ?_
                iterate 3 refine Run.one (ok_move rfl rfl) rfl rfl rfl ?_
                refine Run.one (ok_add_str rfl rfl rfl (by simp; omega)) rfl rfl rfl ?_
                refine Run.one (ok_move rfl rfl) rfl rfl rfl ?_
                refine Run.one (ok_add_str rfl rfl rfl (by simp; omega)) rfl rfl rfl ?_
                refine Run.one ((ok_cmp_str rfl rfl rfl rfl).sub (bool_eq (c := false) (by simp))) rfl rfl rfl ?_
                refine Run.nil ?_
                refine T_condF rfl rfl ?_
                refine T_skip ?_
                refine T_regionS ?_
                iterate 2 refine Run.one (ok_move rfl rfl) rfl rfl rfl ?_
                refine Run.one (ok_len_str rfl rfl) rfl rfl rfl ?_
                refine Run.one ((ok_trem rfl rfl rfl (by omega)).sub (int_eq hm.symm)) rfl rfl rfl ?_
                refine Run.one (ok_move rfl rfl) rfl rfl rfl ?_
                refine Run.one (ok_len_str rfl rfl) rfl rfl rfl ?_
                refine Run.one (ok_ari rfl rfl rfl rfl (wrap_i64 (by omega) (by omega))) rfl rfl rfl ?_
                refine Run.one (ok_move rfl rfl) rfl rfl rfl ?_
                refine Run.one (ok_len_str rfl rfl) rfl rfl rfl ?_
                refine Run.one ((ok_rem rfl rfl rfl (by omega) (by omega)).sub (int_eq hKe)) rfl rfl rfl ?_
                refine Run.one (ok_assign rfl rfl) rfl rfl rfl ?_
                refine Run.nil ?_
                refine T_seq ?_
                refine T_regionS ?_
                iterate 2 refine Run.one (ok_move rfl rfl) rfl rfl rfl ?_
                refine Run.one (ok_add_str rfl rfl rfl (by simp; omega)) rfl rfl rfl ?_
                refine Run.one (ok_move rfl rfl) rfl rfl rfl ?_
                refine Run.one (ok_add_str rfl rfl rfl (by simp; omega)) rfl rfl rfl ?_
                iterate 2 refine Run.one (ok_move rfl rfl) rfl rfl rfl ?_
                refine Run.one (ok_add_str rfl rfl rfl (by simp; omega)) rfl rfl rfl ?_
                refine Run.one (ok_move rfl rfl) rfl rfl rfl ?_
                refine Run.one (ok_add_str rfl rfl rfl (by simp; omega)) rfl rfl rfl ?_
                iterate 2 refine Run.one (ok_move rfl rfl) rfl rfl rfl ?_
                refine Run.one (ok_add_str rfl rfl rfl (by simp; omega)) rfl rfl rfl ?_
                iterate 2 refine Run.one (ok_move rfl rfl) rfl rfl rfl ?_
                refine Run.one (ok_add_str rfl rfl rfl (by simp; omega)) rfl rfl rfl ?_
                iterate 2 refine Run.one (ok_move rfl rfl) rfl rfl rfl ?_
                refine Run.one (ok_len_str rfl rfl) rfl rfl rfl ?_
                refine Run.one (ok_ari (z := (((R ++ W ++ U).length - 1 : Nat) : Int)) rfl rfl rfl (congrArg some (by omega)) (wrap_i64 (by omega) (by omega))) rfl rfl rfl ?_
                refine Run.one ((ok_slice_str (lo := 0) (hi := (R ++ W ++ U).length - 1) rfl rfl (.inl ⟨rfl, rfl⟩) (.inr ⟨_, _, rfl, rfl⟩) (by omega) (by omega)).sub (str_eq List.drop_zero)) rfl rfl rfl ?_
                refine Run.one (ok_move rfl rfl) rfl rfl rfl ?_
                refine Run.one (ok_add_str rfl rfl rfl (by simp; omega)) rfl rfl rfl ?_
                refine Run.one (ok_move rfl rfl) rfl rfl rfl ?_
                refine Run.one (ok_add_str rfl rfl rfl (by simp; omega)) rfl rfl rfl ?_
                refine Run.one (ok_move rfl rfl) rfl rfl rfl ?_
                refine Run.one (ok_add_str rfl rfl rfl (by simp; omega)) rfl rfl rfl ?_
                refine Run.one (ok_move rfl rfl) rfl rfl rfl ?_
                refine Run.one (ok_add_str rfl rfl rfl (by simp; omega)) rfl rfl rfl ?_
                refine Run.one (ok_buildSlice rfl rfl (by decide) rfl (by simp) rfl rfl) rfl rfl rfl ?_
                refine Run.one (ok_len rfl rfl) rfl rfl rfl ?_
                refine Run.one (ok_move rfl rfl) rfl rfl rfl ?_
                refine Run.nil ?_
                refine T_block ?_
                have hbn : ((badL R W U (R ++ W ++ U)).map tC).length = 9 := rfl
                refine T_loop (γ := Nat) (fun g => ⟨_, [(129, intS .i64 (g : Nat)), (128, intS .i64 (9 : Nat)), (127, slS 1 id ((badL R W U (R ++ W ++ U)).map tC)), (10, intS .i64 (K : Nat)), (9, strS W), (8, strS U), (7, strS R), (6, strS (R ++ W ++ U))], [], [], (0, false)⟩) (fun g => g ≤ 9) (fun g => 9 - g) 0 (Nat.zero_le _) (ent_g (subG_cons rfl (subG_cons rfl (subG_cons rfl (subG_cons rfl (subG_cons rfl (subG_cons rfl (subG_cons rfl (subG_cons rfl (trivial)))))))))) ?_
                rintro g hg
                refine T_regionS ?_
                refine Run.one (ok_cmp rfl rfl rfl rfl) rfl rfl rfl ?_
                refine Run.nil ?_
                refine T_seq ?_
                refine T_cond rfl rfl (fun h130 => ?_) (fun h130 => ?_)
                · have k130 := of_decide_eq_true h130
                  obtain ⟨b, hbb⟩ : ∃ b, (badL R W U (R ++ W ++ U))[g]? = some b := ⟨_, List.getElem?_eq_getElem (show g < 9 by omega)⟩
                  have hbm := List.mem_of_getElem? hbb
                  have hb1 := hbad b hbm
                  refine T_skip ?_
                  refine T_seq ?_
                  refine T_block ?_
                  refine T_regionS ?_
                  refine Run.one (ok_indexAddr rfl rfl rfl (by omega) (y := tC b) (by rw [List.getElem?_map]; exact congrArg (Option.map tC) hbb)) rfl rfl rfl ?_
                  refine Run.one (ok_load rfl rfl) rfl rfl rfl ?_
                  refine Run.one (ok_assign rfl rfl) rfl rfl rfl ?_
                  refine Run.nil ?_
                  refine T_regionS ?_
                  refine Run.one (ok_move rfl rfl) rfl rfl rfl ?_
                  refine Run.one (ok_call rfl rfl (parse12_spec (hbl b hbm))) rfl rfl rfl ?_
                  refine Run.one (ok_move rfl rfl) rfl rfl rfl ?_
                  iterate 2 refine Run.one (ok_extract rfl rfl rfl) rfl rfl rfl ?_
                  refine Run.alloc rfl rfl rfl rfl rfl fun b13 => ?_
                  refine Run.store 0 rfl rfl rfl rfl rfl rfl rfl rfl rfl ?_
                  refine Run.one (ok_assign rfl rfl) rfl rfl rfl ?_
                  refine Run.nil ?_
                  refine T_regionS ?_
                  refine Run.one (ok_move rfl rfl) rfl rfl rfl ?_
                  refine Run.one ((ok_cmp rfl rfl rfl rfl).sub (bool_eq (c := false) (by rw [hb1]; rfl))) rfl rfl rfl ?_
                  refine Run.nil ?_
                  refine T_condF rfl rfl ?_
                  refine T_skip ?_
                  refine T_ghost (ghost_drop (List.sublist_cons_self _ _)) ?_
                  refine T_region ?_
                  refine Run.one (ok_ari (z := ((g + 1 : Nat) : Int)) rfl rfl rfl (congrArg some (by omega)) (wrap_i64 (by omega) (by omega))) rfl rfl rfl ?_
                  refine Run.one (ok_move rfl rfl) rfl rfl rfl ?_
                  refine Run.nil ?_
                  exact ⟨g + 1, by omega, by omega, ent_g (subG_cons rfl (subG_cons rfl (subG_cons rfl (subG_cons rfl (subG_cons rfl (subG_cons rfl (subG_cons rfl (subG_cons rfl (trivial)))))))))⟩
                · have k130 := of_decide_eq_false h130
                  refine T_exit ?_
                  refine T_regionS ?_
                  iterate 2 refine Run.one (ok_move rfl rfl) rfl rfl rfl ?_
                  refine Run.one ((ok_slice_str (lo := 0) (hi := K) rfl rfl (.inl ⟨rfl, rfl⟩) (.inr ⟨_, _, rfl, rfl⟩) (Nat.zero_le _) (by omega)).sub (str_eq List.drop_zero)) rfl rfl rfl ?_
                  refine Run.one (ok_call rfl rfl (parse12_spec (t := (R ++ W ++ U).take K) (by rw [List.length_take]; omega))) rfl rfl rfl ?_
                  refine Run.one (ok_move rfl rfl) rfl rfl rfl ?_
                  iterate 2 refine Run.one (ok_extract rfl rfl rfl) rfl rfl rfl ?_
                  refine Run.alloc rfl rfl rfl rfl rfl fun b15 => ?_
                  refine Run.store 0 rfl rfl rfl rfl rfl rfl rfl rfl rfl ?_
                  refine Run.one (ok_assign rfl rfl) rfl rfl rfl ?_
                  refine Run.nil ?_
                  refine T_seq ?_
                  refine T_regionS ?_
                  refine Run.one (ok_move rfl rfl) rfl rfl rfl ?_
                  refine Run.oneB (ok_cmp rfl rfl rfl rfl) rfl rfl rfl (fun h25_1 => ?_) (fun h25_1 => ?_)
                  · have k25_1 := beq_iff_eq.1 h25_1
                    obtain ⟨p1, p2⟩ := part_end (by omega) k25_1
                    refine Run.one (ok_move rfl rfl) rfl rfl rfl ?_
                    refine Run.one (ok_move rfl rfl) (gB rfl rfl rfl rfl) rfl rfl ?_
                    refine Run.one ((ok_cmp rfl rfl rfl rfl).sub (bool_eq (c := false) (beq_eq_false_iff_ne.2 (by omega)))) (gB rfl rfl rfl rfl) rfl rfl ?_
                    iterate 3 refine Run.one (ok_move rfl rfl) (gB rfl rfl rfl rfl) rfl rfl ?_
                    refine Run.one (ok_ari (z := ((K - 1 : Nat) : Int)) rfl rfl rfl (congrArg some (by omega)) (wrap_i64 (by omega) (by omega))) (gB rfl rfl rfl rfl) rfl rfl ?_
                    refine Run.one (ok_index_str rfl rfl rfl (by omega) (c := 10) p2) (gB rfl rfl rfl rfl) rfl rfl ?_
                    refine Run.one ((ok_cmp rfl rfl rfl rfl).sub (bool_eq (c := false) (rfl))) (gB rfl rfl rfl rfl) rfl rfl ?_
                    refine Run.one (ok_pick rfl rfl rfl) (gB rfl rfl rfl rfl) rfl rfl ?_
                    refine Run.one (ok_pick rfl rfl rfl) rfl rfl rfl ?_
                    refine Run.nil ?_
                    refine T_condF rfl rfl ?_
                    refine T_skip ?_
                    refine T_regionS ?_
                    iterate 2 refine Run.one (ok_move rfl rfl) rfl rfl rfl ?_
                    refine Run.one (ok_add_str rfl rfl rfl (by omega)) rfl rfl rfl ?_
                    refine Run.one (ok_call rfl rfl (parse12_spec (t := R ++ U) (by rw [List.length_append]; omega))) rfl rfl rfl ?_
                    refine Run.one (ok_move rfl rfl) rfl rfl rfl ?_
                    iterate 2 refine Run.one (ok_extract rfl rfl rfl) rfl rfl rfl ?_
                    refine Run.alloc rfl rfl rfl rfl rfl fun b17 => ?_
                    refine Run.store 0 rfl rfl rfl rfl rfl rfl rfl rfl rfl ?_
                    refine Run.one (ok_assign rfl rfl) rfl rfl rfl ?_
                    refine Run.nil ?_
                    refine T_regionS ?_
                    refine Run.one (ok_move rfl rfl) rfl rfl rfl ?_
                    refine Run.one (ok_call rfl rfl (parse12_spec (t := R) (by omega))) rfl rfl rfl ?_
                    refine Run.one (ok_move rfl rfl) rfl rfl rfl ?_
                    iterate 2 refine Run.one (ok_extract rfl rfl rfl) rfl rfl rfl ?_
                    refine Run.alloc rfl rfl rfl rfl rfl fun b19 => ?_
                    refine Run.store 0 rfl rfl rfl rfl rfl rfl rfl rfl rfl ?_
                    refine Run.one (ok_assign rfl rfl) rfl rfl rfl ?_
                    refine Run.nil ?_
                    refine T_regionS ?_
                    refine Run.one (ok_move rfl rfl) rfl rfl rfl ?_
                    refine Run.one ((ok_cmp rfl rfl rfl rfl).sub (bool_eq (c := true) (by rw [hg1]; rfl))) rfl rfl rfl ?_
                    refine Run.one (ok_move rfl rfl) rfl rfl rfl ?_
                    refine Run.one (ok_move rfl rfl) (gB rfl rfl rfl rfl) rfl rfl ?_
                    refine Run.one ((ok_cmp rfl rfl rfl rfl).sub (bool_eq (c := true) (by rw [hg2]; rfl))) (gB rfl rfl rfl rfl) rfl rfl ?_
                    refine Run.one (ok_pick rfl rfl rfl) rfl rfl rfl ?_
                    refine Run.one (ok_move rfl rfl) rfl rfl rfl ?_
                    refine Run.one (ok_call rfl rfl wakes12_spec) (gB rfl rfl rfl rfl) rfl rfl ?_
                    refine Run.one (ok_pick rfl rfl rfl) rfl rfl rfl ?_
                    refine Run.one (ok_assign rfl rfl) rfl rfl rfl ?_
                    refine Run.nil ?_
                    refine T_ret ?_
                    exact ⟨_, [], .one (.tmp rfl), List.nil_sublist _, rfl, rfl⟩
                  · have k25_1 := beq_eq_false_iff_ne.1 h25_1
                    refine Run.one (ok_move rfl rfl) rfl rfl rfl ?_
                    iterate 3 refine Run.no (gB rfl rfl rfl rfl) rfl rfl ?_
                    iterate 5 refine Run.no (gU rfl rfl rfl) rfl rfl ?_
                    refine Run.no (gB rfl rfl rfl rfl) rfl rfl ?_
                    refine Run.one (ok_pick rfl rfl rfl) rfl rfl rfl ?_
                    refine Run.nil ?_
                    refine T_condF rfl rfl ?_
                    refine T_skip ?_
                    refine T_regionS ?_
                    iterate 2 refine Run.one (ok_move rfl rfl) rfl rfl rfl ?_
                    refine Run.one (ok_add_str rfl rfl rfl (by omega)) rfl rfl rfl ?_
                    refine Run.one (ok_call rfl rfl (parse12_spec (t := R ++ U) (by rw [List.length_append]; omega))) rfl rfl rfl ?_
                    refine Run.one (ok_move rfl rfl) rfl rfl rfl ?_
                    iterate 2 refine Run.one (ok_extract rfl rfl rfl) rfl rfl rfl ?_
                    refine Run.alloc rfl rfl rfl rfl rfl fun b17 => ?_
                    refine Run.store 0 rfl rfl rfl rfl rfl rfl rfl rfl rfl ?_
                    refine Run.one (ok_assign rfl rfl) rfl rfl rfl ?_
                    refine Run.nil ?_
                    refine T_regionS ?_
                    refine Run.one (ok_move rfl rfl) rfl rfl rfl ?_
                    refine Run.one (ok_call rfl rfl (parse12_spec (t := R) (by omega))) rfl rfl rfl ?_
                    refine Run.one (ok_move rfl rfl) rfl rfl rfl ?_
                    iterate 2 refine Run.one (ok_extract rfl rfl rfl) rfl rfl rfl ?_
                    refine Run.alloc rfl rfl rfl rfl rfl fun b19 => ?_
                    refine Run.store 0 rfl rfl rfl rfl rfl rfl rfl rfl rfl ?_
                    refine Run.one (ok_assign rfl rfl) rfl rfl rfl ?_
                    refine Run.nil ?_
                    refine T_regionS ?_
                    refine Run.one (ok_move rfl rfl) rfl rfl rfl ?_
                    refine Run.one ((ok_cmp rfl rfl rfl rfl).sub (bool_eq (c := true) (by rw [hg1]; rfl))) rfl rfl rfl ?_
                    refine Run.one (ok_move rfl rfl) rfl rfl rfl ?_
                    refine Run.one (ok_move rfl rfl) (gB rfl rfl rfl rfl) rfl rfl ?_
                    refine Run.one ((ok_cmp rfl rfl rfl rfl).sub (bool_eq (c := true) (by rw [hg2]; rfl))) (gB rfl rfl rfl rfl) rfl rfl ?_
                    refine Run.one (ok_pick rfl rfl rfl) rfl rfl rfl ?_
                    refine Run.one (ok_move rfl rfl) rfl rfl rfl ?_
                    refine Run.one (ok_call rfl rfl wakes12_spec) (gB rfl rfl rfl rfl) rfl rfl ?_
                    refine Run.one (ok_pick rfl rfl rfl) rfl rfl rfl ?_
                    refine Run.one (ok_assign rfl rfl) rfl rfl rfl ?_
                    refine Run.nil ?_
                    refine T_ret ?_
                    exact ⟨_, [], .one (.tmp rfl), List.nil_sublist _, rfl, rfl⟩
end Go.Proofs
