/- A scene's text, read again: plain facts. -/
import Derived.Test.YtcdlcfihjfhkgaaGreatDoorSci
namespace Num
open Go Go.Lib Go.Proofs
def wdOk (w : List UInt8) : Prop := w ≠ [] ∧ ∀ c ∈ w, c ≠ 32 ∧ c ≠ 10
theorem ful_wd {ws : List (List UInt8)} (h : ∀ x ∈ ws, wdOk x) : ful ws = true := List.all_eq_true.2 fun x hx => by
  cases x with
  | nil => exact absurd rfl (h [] hx).1
  | cons _ _ => rfl
theorem mem_join {c d : UInt8} : ∀ {ws : List (List UInt8)}, c ∈ join ws [d] → c = d ∨ ∃ x ∈ ws, c ∈ x
  | [], h => by simp [join] at h
  | [w], h => .inr ⟨w, by simp, by simpa [join] using h⟩
  | w :: y :: v, h => by
    have e : join (w :: y :: v) [d] = (w ++ [d]) ++ join (y :: v) [d] := by unfold join; rw [List.intercalate_cons_cons]
    rw [e] at h
    rcases List.mem_append.1 h with h | h
    · rcases List.mem_append.1 h with h | h
      · exact .inr ⟨w, by simp, h⟩
      · exact .inl (List.mem_singleton.1 h)
    · rcases mem_join h with h | ⟨x, hx, h⟩
      · exact .inl h
      · exact .inr ⟨x, by simp [List.mem_cons.1 hx], h⟩
theorem lines_nl {ws : List (List UInt8)} (hne : ws ≠ []) (hf : ful ws = true) (h10 : ∀ w ∈ ws, ∀ x ∈ w, x ≠ 10) : lnOk (nl ws) = true ∧ spl 10 (trimSuffix (nl ws) [10]) = ws := by
  have hj := spl_join hne h10
  obtain ⟨l1, l2⟩ := lnOk_snoc (join ws [10])
  exact ⟨by rw [nl_join hne, l1, hj, hf], by rw [nl_join hne, l2, hj]⟩
theorem dgF_cons (p : Rat × Rat) (l : List (Rat × Rat)) : dgF 0 (p :: l) = max (max (nD p.1) (nD p.2)) (dgF 0 l) := by
  have : dgF 0 (p :: l) = dgF (max (max 0 (nD p.1)) (nD p.2)) l := rfl
  rw [this, dgF_max]; omega
def finF (o : Option Rd) : (List (Rat × Rat) × List (List (Rat × Rat)) × List ((Rat × Rat) × (Rat × Rat))) × Int := match o with | none => (([], [], []), 1) | some rd => if rd.code ≠ 0 then (([], [], []), rd.code) else ((rd.rob, rd.obs, rd.que), 0)
end Num
/- straitref12: points, digits, the same scenes, scenes in lowest terms. -/
namespace Go.Proofs
open Go Go.Sv Num
variable {G : Imm}
theorem ok_max5 {P : Program} {G : Imm} {H : HL} {o : Oper} {g : List (Nat × SV)} {x y z w v : Operand} {ts : Array TypeId} {k : IntKind} {m n p q s : Int} (hop : o.op = .call { callee := .builtin .max, args := #[x, y, z, w, v], argTypes := ts }) (hx : opE g x = some (intS k m)) (hy : opE g y = some (intS k n)) (hz : opE g z = some (intS k p)) (hw : opE g w = some (intS k q)) (hv : opE g v = some (intS k s)) : OpOK P G H o g (intS k (max (max (max (max m n) p) q) s)) :=
  ok_pure (by simp [hop]) fun I W a _ _ hr => by
    have h1 : a.eval x = .int k m := hr.get (by simp [hop, Op.operands, Call.operands]) hx
    have h2 : a.eval y = .int k n := hr.get (by simp [hop, Op.operands, Call.operands]) hy
    have h3 : a.eval z = .int k p := hr.get (by simp [hop, Op.operands, Call.operands]) hz
    have h4 : a.eval w = .int k q := hr.get (by simp [hop, Op.operands, Call.operands]) hw
    have h5 : a.eval v = .int k s := hr.get (by simp [hop, Op.operands, Call.operands]) hv
    refine ⟨_, ?_, rfl⟩
    have e : ∀ u v : Int, (if v > u then v else u) = max u v := fun u v => by rw [Int.max_def]; split <;> split <;> omega
    simp [execOp, hop, resolve, invoke, builtin, Builtin.max_, Builtin.max2, h1, h2, h3, h4, h5, e]
theorem rpNorm_own {xs : List ((Bool × List Nat × List Nat) × (Bool × List Nat × List Nat))} {k : Nat} (hk : 0 < k) (hl : ∀ p ∈ xs, PtOk k p) (hs : 64 * k + 20000 ≤ 65536) (hxl : xs.length ≤ cap) : CallSpec Tryz.prog G 43 [slS 6 pc xs] [] (fun v H' => ∃ q, rowOk q (pvs xs).length ∧ v = eqS (rowV q (pvs xs).length) ∧ H' = [rowE q 68 6 (pvs xs).length ((pvs xs).flatMap pcan)]) := by
  unfold cap at hxl
  refine fn_spec Tryz.func43 rfl rfl rfl ?_
  refine T_regionS ?_
  refine Run.one (ok_assign rfl rfl) rfl rfl rfl ?_
  refine Run.nil ?_
  refine T_regionS ?_
  refine Run.one (ok_assign rfl rfl) rfl rfl rfl ?_
  refine Run.nil ?_
  refine T_seq ?_
  refine T_regionS ?_
  refine Run.one (ok_assign rfl rfl) rfl rfl rfl ?_
  refine Run.nil ?_
  refine T_block ?_
  refine T_ghost (ghost_row 68 6) ?_
  refine T_loop2 (fun (i : Nat) (q : Option (Nat × Nat)) => ⟨_, [(4, intS .i64 (i : Nat)), (3, eqS (rowV q i)), (0, slS 6 pc xs)], [rowE q 68 6 i (((xs.take i).map pv).flatMap pcan)], [], (0, false)⟩)
      (fun i q => i ≤ xs.length ∧ rowOk q i) (fun i q => xs.length - i)
      0 none ⟨Nat.zero_le _, rfl⟩ (ent_h (subG_cons rfl (subG_cons rfl (subG_cons rfl (trivial)))) rfl) ?_
  rintro i q ⟨hi, hq⟩
  refine T_seq ?_
  refine T_regionS ?_
  iterate 2 refine Run.one (ok_move rfl rfl) rfl rfl rfl ?_
  refine Run.one (ok_len rfl rfl) rfl rfl rfl ?_
  refine Run.one (ok_cmp rfl rfl rfl rfl) rfl rfl rfl ?_
  refine Run.nil ?_
  refine T_cond rfl rfl (fun h8 => ?_) (fun h8 => ?_)
  · have k8 := of_decide_eq_true h8
    obtain ⟨⟨⟨b, l, d⟩, ⟨c, m, e⟩⟩, hp⟩ : ∃ p, xs[i]? = some p := ⟨_, List.getElem?_eq_getElem (by omega)⟩
    have hpm := hl _ (List.mem_of_getElem? hp)
    have i1 : IsQ b l d (qv (b, l, d)) k := isQ_lim hpm.1 hk
    have i2 : IsQ c m e (qv (c, m, e)) k := isQ_lim hpm.2 hk
    have htk : (xs.take (i + 1)).map pv = (xs.take i).map pv ++ [(qv (b, l, d), qv (c, m, e))] := by rw [List.take_add_one, hp]; simp [pv]
    refine T_skip ?_
    refine T_seq ?_
    refine T_block ?_
    refine T_draw 15 (by kernel_rfl) ?_
    iterate 3 refine Run.one (ok_move rfl rfl) rfl rfl rfl ?_
    refine Run.one (ok_indexAddr rfl rfl rfl (by omega) (y := ((b, l, d), (c, m, e))) (hp)) rfl rfl rfl ?_
    refine Run.one (ok_fieldAddr rfl rfl rfl) rfl rfl rfl ?_
    refine Run.one ((show OpOK _ _ _ _ _ (aggS [boolS b, natS l, natS d]) from ok_load_agg rfl rfl rfl rfl)) rfl rfl rfl ?_
    refine Run.one (ok_call rfl rfl (rqNorm_spec hs)) rfl rfl rfl ?_
    iterate 2 refine Run.one (ok_move rfl rfl) rfl rfl rfl ?_
    refine Run.one (ok_indexAddr rfl rfl rfl (by omega) (y := ((b, l, d), (c, m, e))) (hp)) rfl rfl rfl ?_
    refine Run.one (ok_fieldAddr rfl rfl rfl) rfl rfl rfl ?_
    refine Run.one ((show OpOK _ _ _ _ _ (aggS [boolS c, natS m, natS e]) from ok_load_agg rfl rfl rfl rfl)) rfl rfl rfl ?_
    refine Run.one (ok_call rfl rfl (rqNorm_spec hs)) rfl rfl rfl ?_
    refine Run.one (ok_build rfl rfl rfl) rfl rfl rfl ?_
    refine Run.one (ok_buildSlice rfl rfl (by decide) rfl (by simp) rfl rfl) rfl rfl rfl ?_
    refine Run.nil ?_
    refine Run.append 0 rfl rfl rfl rfl rfl rfl rfl rfl hq (by rw [flat_pcan]; simp; omega) (fun z hz => by rw [List.mem_singleton.1 hz]; rfl) (by unfold big; simp; omega) (by unfold big; simp; omega) fun q20 hq20 => ?_
    refine Run.one (ok_assign rfl rfl) rfl rfl rfl ?_
    refine Run.nil ?_
    refine T_region ?_
    refine Run.one (ok_move rfl rfl) rfl rfl rfl ?_
    refine Run.one (ok_ari (z := ((i + 1 : Nat) : Int)) rfl rfl rfl (congrArg some (by omega)) (wrap_i64 (by omega) (by omega))) rfl rfl rfl ?_
    refine Run.one (ok_assign rfl rfl) rfl rfl rfl ?_
    refine Run.nil ?_
    exact ⟨i + 1, q20, ⟨by omega, hq20⟩, by omega, ent_h (subG_cons rfl (subG_cons rfl (subG_cons rfl (trivial)))) (by rw [htk, List.flatMap_append]; rfl)⟩
  · have k8 := of_decide_eq_false h8
    have hie : i = xs.length := by omega
    subst hie
    have hpl : (pvs xs).length = xs.length := by unfold pvs; rw [List.length_map]
    rw [List.take_length]
    refine T_exit ?_
    refine T_regionS ?_
    refine Run.one (ok_move rfl rfl) rfl rfl rfl ?_
    refine Run.one (ok_assign rfl rfl) rfl rfl rfl ?_
    refine Run.nil ?_
    refine T_ret ?_
    exact ⟨_, [_], .one (.tmp rfl), List.Sublist.refl _, q, by rw [hpl]; exact hq, by rw [hpl], by rw [hpl]; rfl⟩
theorem rpoints_spec {s : Sc} {k n : Nat} (h : ScOk s k n) (hs : 64 * k + 20000 ≤ 65536) (hn : n ≤ 1000000) : PSpec Tryz.prog G 76 [aggS (scC s)] (slS 6 pcan ((scPts s).map pv)) := by
  have hrob := h.pt _ (mem_rob s)
  have hrl := h.lrow (mem_rob s)
  have hsl := h.row
  rw [scL_len] at hsl
  simp only at hrob hrl
  refine fn_spec Tryz.func76 rfl rfl rfl ?_
  refine T_regionS ?_
  refine Run.one (ok_box rfl rfl) rfl rfl rfl ?_
  refine Run.one (ok_assign rfl rfl) rfl rfl rfl ?_
  refine Run.nil ?_
  refine T_regionS ?_
  refine Run.one (ok_fieldAddr rfl rfl rfl) rfl rfl rfl ?_
  refine Run.one (ok_load rfl rfl) rfl rfl rfl ?_
  refine Run.callH [] [] [] rfl rfl rfl rfl (rpNorm_own h.pos hrob (by omega) (by unfold cap; omega)) rfl rfl rfl ?_
  rintro s1 H1 ⟨q0, hq0, rfl, rfl⟩
  refine Run.one (ok_assign rfl rfl) rfl rfl rfl ?_
  refine Run.nil ?_
  refine T_seq ?_
  refine T_regionS ?_
  refine Run.one (ok_assign rfl rfl) rfl rfl rfl ?_
  refine Run.nil ?_
  refine T_block ?_
  refine T_loop2 (fun (g : Nat) (q : Option (Nat × Nat)) => ⟨_, [(4, intS .i64 (g : Nat)), (3, eqS (rowV q (pvs s.1 ++ obP (s.2.1.take g)).length)), (1, ptrS (scC s))], [rowE q 68 6 (pvs s.1 ++ obP (s.2.1.take g)).length ((pvs s.1 ++ obP (s.2.1.take g)).flatMap pcan)], [], (0, false)⟩) (fun g q => g ≤ s.2.1.length ∧ rowOk q (pvs s.1 ++ obP (s.2.1.take g)).length) (fun g _ => s.2.1.length - g) 0 q0 ⟨Nat.zero_le _, by simpa [obP] using hq0⟩ (ent_h (subG_cons rfl (subG_as rfl (by simp [obP]) (subG_cons rfl (trivial)))) (by simp [obP])) ?_
  rintro g q ⟨hg, hq⟩
  refine T_seq ?_
  refine T_regionS ?_
  refine Run.one (ok_move rfl rfl) rfl rfl rfl ?_
  refine Run.one (ok_fieldAddr rfl rfl rfl) rfl rfl rfl ?_
  refine Run.one (ok_load rfl rfl) rfl rfl rfl ?_
  refine Run.one (ok_len rfl rfl) rfl rfl rfl ?_
  refine Run.one (ok_cmp rfl rfl rfl rfl) rfl rfl rfl ?_
  refine Run.nil ?_
  refine T_cond rfl rfl (fun h13 => ?_) (fun h13 => ?_)
  · have k13 := of_decide_eq_true h13
    obtain ⟨l, hlr⟩ : ∃ l, s.2.1[g]? = some l := ⟨_, List.getElem?_eq_getElem (by omega)⟩
    have hlm := mem_obs (List.mem_of_getElem? hlr)
    have hpt := h.pt _ hlm
    have hll := h.lrow hlm
    have hsu := obP_succ hlr
    have hpl := pts_le h (g + 1) 0
    rw [hsu] at hpl
    simp only [List.length_append] at hpl
    simp only at hpt hll
    have hplv : (l.map pv).length = (pvs l).length := rfl
    obtain ⟨A, hA⟩ : ∃ A, A = (pvs s.1 ++ obP (s.2.1.take g)) := ⟨_, rfl⟩
    have hAl : A.length = (pvs s.1).length + (obP (s.2.1.take g)).length := by rw [hA, List.length_append]
    have hA2 : pvs s.1 ++ obP (s.2.1.take (g + 1)) = A ++ pvs l := by rw [hsu, hA, List.append_assoc]
    rw [← hA] at hq ⊢
    refine T_skip ?_
    refine T_seq ?_
    refine T_block ?_
    refine T_region ?_
    refine Run.one (ok_move rfl rfl) rfl rfl rfl ?_
    refine Run.one (ok_fieldAddr rfl rfl rfl) rfl rfl rfl ?_
    refine Run.one (ok_load rfl rfl) rfl rfl rfl ?_
    refine Run.one (ok_move rfl rfl) rfl rfl rfl ?_
    refine Run.one (ok_indexAddr rfl rfl rfl (by omega) (y := l) (hlr)) rfl rfl rfl ?_
    refine Run.one (ok_load rfl rfl) rfl rfl rfl ?_
    refine Run.one (ok_call rfl rfl (rpNorm_spec h.pos hpt (by omega) (by unfold cap; omega))) rfl rfl rfl ?_
    refine Run.append 0 rfl rfl rfl rfl rfl rfl rfl rfl hq (by rw [flat_pcan]) (fun z hz => rfl) (by unfold big; exact Nat.le_trans (Nat.mul_le_mul_right _ (show _ ≤ 1000000 by omega)) (by decide)) (by unfold big; omega) fun q23 hq23 => ?_
    refine Run.one (ok_assign rfl rfl) rfl rfl rfl ?_
    refine Run.nil ?_
    refine T_region ?_
    refine Run.one (ok_move rfl rfl) rfl rfl rfl ?_
    refine Run.one (ok_ari (z := ((g + 1 : Nat) : Int)) rfl rfl rfl (congrArg some (by omega)) (wrap_i64 (by omega) (by omega))) rfl rfl rfl ?_
    refine Run.one (ok_assign rfl rfl) rfl rfl rfl ?_
    refine Run.nil ?_
    exact ⟨g + 1, q23, ⟨by omega, by rw [hA2, List.length_append]; exact hq23⟩, by omega, ent_h (subG_cons rfl (subG_as rfl (by rw [hA2, List.length_append]; rfl) (subG_cons rfl (trivial)))) (by rw [hA2, List.length_append, List.flatMap_append]; rfl)⟩
  · have k13 := of_decide_eq_false h13
    obtain rfl : g = s.2.1.length := by omega
    rw [List.take_length] at hq ⊢
    refine T_exit ?_
    refine T_seq ?_
    refine T_regionS ?_
    refine Run.one (ok_assign rfl rfl) rfl rfl rfl ?_
    refine Run.nil ?_
    refine T_block ?_
    refine T_loop2 (fun (g : Nat) (q : Option (Nat × Nat)) => ⟨_, [(5, intS .i64 (g : Nat)), (3, eqS (rowV q (pvs s.1 ++ obP s.2.1 ++ quP (s.2.2.take g)).length)), (1, ptrS (scC s))], [rowE q 68 6 (pvs s.1 ++ obP s.2.1 ++ quP (s.2.2.take g)).length ((pvs s.1 ++ obP s.2.1 ++ quP (s.2.2.take g)).flatMap pcan)], [], (0, false)⟩) (fun g q => g ≤ s.2.2.length ∧ rowOk q (pvs s.1 ++ obP s.2.1 ++ quP (s.2.2.take g)).length) (fun g _ => s.2.2.length - g) 0 q ⟨Nat.zero_le _, by simpa [quP] using hq⟩ (ent_h (subG_cons rfl (subG_as rfl (by simp [quP]) (subG_cons rfl (trivial)))) (by simp [quP])) ?_
    rintro g q ⟨hg, hq⟩
    refine T_seq ?_
    refine T_regionS ?_
    refine Run.one (ok_move rfl rfl) rfl rfl rfl ?_
    refine Run.one (ok_fieldAddr rfl rfl rfl) rfl rfl rfl ?_
    refine Run.one (ok_load rfl rfl) rfl rfl rfl ?_
    refine Run.one (ok_len rfl rfl) rfl rfl rfl ?_
    refine Run.one (ok_cmp rfl rfl rfl rfl) rfl rfl rfl ?_
    refine Run.nil ?_
    refine T_cond rfl rfl (fun h28 => ?_) (fun h28 => ?_)
    · have k28 := of_decide_eq_true h28
      obtain ⟨⟨⟨⟨b1, l1, d1⟩, ⟨c1, m1, e1⟩⟩, ⟨⟨b2, l2, d2⟩, ⟨c2, m2, e2⟩⟩⟩, hqr⟩ : ∃ q, s.2.2[g]? = some q := ⟨_, List.getElem?_eq_getElem (by omega)⟩
      have hqm := mem_que (List.mem_of_getElem? hqr)
      have hpt := h.pt _ hqm
      have hsu := quP_succ hqr
      have hpl := pts_le h s.2.1.length (g + 1)
      rw [hsu, List.take_length] at hpl
      simp only [List.length_append, List.length_cons, List.length_nil] at hpl
      simp only at hpt
      obtain ⟨A, hA⟩ : ∃ A, A = (pvs s.1 ++ obP s.2.1 ++ quP (s.2.2.take g)) := ⟨_, rfl⟩
      have hAl : A.length = (pvs s.1).length + (obP s.2.1).length + (quP (s.2.2.take g)).length := by rw [hA, List.length_append, List.length_append]
      have hA2 : pvs s.1 ++ obP s.2.1 ++ quP (s.2.2.take (g + 1)) = A ++ [pv ((b1, l1, d1), (c1, m1, e1)), pv ((b2, l2, d2), (c2, m2, e2))] := by rw [hsu, hA, List.append_assoc _ (quP _)]
      rw [← hA] at hq ⊢
      refine T_skip ?_
      refine T_seq ?_
      refine T_block ?_
      refine T_drawM 16 [15] _ (by kernel_rfl) (.cons _ .slnil) ?_
      refine RunE.one (ok_move rfl rfl) rfl rfl rfl (by kernel_rfl) ?_
      refine RunE.one (ok_fieldAddr rfl rfl rfl) rfl rfl rfl (by kernel_rfl) ?_
      refine RunE.one (ok_load rfl rfl) rfl rfl rfl (by kernel_rfl) ?_
      refine RunE.one (ok_move rfl rfl) rfl rfl rfl (by kernel_rfl) ?_
      refine RunE.one (ok_indexAddr rfl rfl rfl (by omega) (y := (((b1, l1, d1), (c1, m1, e1)), ((b2, l2, d2), (c2, m2, e2)))) (hqr)) rfl rfl rfl (by kernel_rfl) ?_
      refine RunE.one (ok_fieldAddr rfl rfl rfl) rfl rfl rfl (by kernel_rfl) ?_
      refine RunE.one ((show OpOK _ _ _ _ _ (aggS (pc ((b1, l1, d1), (c1, m1, e1)))) from ok_load_agg rfl rfl rfl rfl)) rfl rfl rfl (by kernel_rfl) ?_
      refine RunE.one (ok_fieldAddr rfl rfl rfl) rfl rfl rfl (by kernel_rfl) ?_
      refine RunE.one (ok_load rfl rfl) rfl rfl rfl (by kernel_rfl) ?_
      refine RunE.one (ok_move rfl rfl) rfl rfl rfl (by kernel_rfl) ?_
      refine RunE.one (ok_indexAddr rfl rfl rfl (by omega) (y := (((b1, l1, d1), (c1, m1, e1)), ((b2, l2, d2), (c2, m2, e2)))) (hqr)) rfl rfl rfl (by kernel_rfl) ?_
      refine RunE.one (ok_fieldAddr rfl rfl rfl) rfl rfl rfl (by kernel_rfl) ?_
      refine RunE.one ((show OpOK _ _ _ _ _ (aggS (pc ((b2, l2, d2), (c2, m2, e2)))) from ok_load_agg rfl rfl rfl rfl)) rfl rfl rfl (by kernel_rfl) ?_
      refine RunE.one (ok_buildSlice rfl rfl (by decide) rfl (by simp) rfl rfl) rfl rfl rfl (by kernel_rfl) ?_
      refine RunE.one (ok_call rfl rfl ((rpNorm_spec (xs := [((b1, l1, d1), (c1, m1, e1)), ((b2, l2, d2), (c2, m2, e2))]) h.pos hpt (by omega) (by unfold cap; simp)).args ⟨fun I v h => sl_map (f := pc) (l := [((b1, l1, d1), (c1, m1, e1)), ((b2, l2, d2), (c2, m2, e2))]) h, trivial⟩)) rfl rfl rfl (by kernel_rfl) ?_
      refine RunE.nil ⟨_, rfl, ?_⟩
      refine EffM.append 0 rfl rfl rfl rfl rfl rfl rfl hq (by rw [flat_pcan]) (fun z hz => rfl) (by unfold big; simp only [List.length_map, List.length_cons, List.length_nil]; exact Nat.le_trans (Nat.mul_le_mul_right _ (show _ ≤ 1000000 by omega)) (by decide)) (by unfold big; simp; omega) fun q46 hq46 => ⟨(.cons _ .slnil), ?_⟩
      refine RunE.nil ?_
      refine Run.one (ok_assign rfl rfl) rfl rfl rfl ?_
      refine Run.nil ?_
      refine T_region ?_
      refine Run.one (ok_move rfl rfl) rfl rfl rfl ?_
      refine Run.one (ok_ari (z := ((g + 1 : Nat) : Int)) rfl rfl rfl (congrArg some (by omega)) (wrap_i64 (by omega) (by omega))) rfl rfl rfl ?_
      refine Run.one (ok_assign rfl rfl) rfl rfl rfl ?_
      refine Run.nil ?_
      exact ⟨g + 1, q46, ⟨by omega, by rw [hA2, List.length_append]; exact hq46⟩, by omega, ent_h (subG_cons rfl (subG_as rfl (by rw [hA2, List.length_append]; rfl) (subG_cons rfl (trivial)))) (by rw [hA2, List.length_append, List.flatMap_append]; rfl)⟩
    · have k28 := of_decide_eq_false h28
      obtain rfl : g = s.2.2.length := by omega
      rw [List.take_length] at hq ⊢
      have hpl := pts_le h s.2.1.length s.2.2.length
      rw [List.take_length, List.take_length] at hpl
      refine T_exit ?_
      refine T_ghost (ghost_sl 0 3 rfl rfl hq (l := pvs s.1 ++ obP s.2.1 ++ quP s.2.2) (f := pcan) rfl rfl (fun _ _ => rfl) (by unfold big; omega)) ?_
      refine T_regionS ?_
      refine Run.one (ok_move rfl rfl) rfl rfl rfl ?_
      refine Run.one (ok_assign rfl rfl) rfl rfl rfl ?_
      refine Run.nil ?_
      refine T_ret ?_
      exact ⟨_, [], .one (.tmp rfl), List.nil_sublist _, by rw [pts_eq], rfl⟩
theorem rdigits_spec {s : Sc} {k n : Nat} (h : ScOk s k n) (hs : 64 * k + 20000 ≤ 65536) (hn : n ≤ 1000000) : PSpec Tryz.prog G 32 [aggS (scC s)] (intS .i64 ((dgF 0 ((scPts s).map pv) : Nat) : Int)) := by
  have hbq : ∀ p ∈ (scPts s).map pv, Bq p.1 k ∧ Bq p.2 k := fun p hp => by
    obtain ⟨r, hr, rfl⟩ := List.mem_map.1 hp
    obtain ⟨x, hx, hrx⟩ := List.mem_flatMap.1 hr
    have ho := h.pt x hx r hrx
    exact ⟨(isQ_lim ho.1 h.pos).bq, (isQ_lim ho.2 h.pos).bq⟩
  obtain ⟨ps, hps⟩ : ∃ ps, ps = (scPts s).map pv := ⟨_, rfl⟩
  have hpt := rpoints_spec (G := G) h hs hn
  rw [← hps] at hpt hbq ⊢
  refine fn_spec Tryz.func32 rfl rfl rfl ?_
  refine T_regionS ?_
  refine Run.one (ok_box rfl rfl) rfl rfl rfl ?_
  refine Run.one (ok_assign rfl rfl) rfl rfl rfl ?_
  refine Run.nil ?_
  refine T_regionS ?_
  refine Run.one (ok_assign rfl rfl) rfl rfl rfl ?_
  refine Run.nil ?_
  refine T_regionS ?_
  refine Run.one (ok_load_agg rfl rfl rfl rfl) rfl rfl rfl ?_
  refine Run.one (ok_call rfl rfl hpt) rfl rfl rfl ?_
  refine Run.one (ok_assign rfl rfl) rfl rfl rfl ?_
  refine Run.nil ?_
  refine T_seq ?_
  refine T_regionS ?_
  refine Run.one (ok_assign rfl rfl) rfl rfl rfl ?_
  refine Run.nil ?_
  refine T_block ?_
  refine T_len 4 rfl fun la => ?_
  unfold big at la
  refine T_loop2 (fun (g acc : Nat) => ⟨_, [(5, intS .i64 (g : Nat)), (4, slS 6 pcan ps), (3, intS .i64 (acc : Nat))], [], [], (0, false)⟩) (fun g acc => g ≤ ps.length ∧ acc = (ps.take g).foldl (fun (n : Nat) (p : Rat × Rat) => max (max n (nD p.1)) (nD p.2)) 0) (fun g _ => ps.length - g) 0 0 ⟨Nat.zero_le _, rfl⟩ (ent_g (subG_cons rfl (subG_cons rfl (subG_cons rfl (trivial))))) ?_
  rintro g acc ⟨hg, hacc⟩
  refine T_seq ?_
  refine T_regionS ?_
  iterate 2 refine Run.one (ok_move rfl rfl) rfl rfl rfl ?_
  refine Run.one (ok_len rfl rfl) rfl rfl rfl ?_
  refine Run.one (ok_cmp rfl rfl rfl rfl) rfl rfl rfl ?_
  refine Run.nil ?_
  refine T_cond rfl rfl (fun h11 => ?_) (fun h11 => ?_)
  · have k11 := of_decide_eq_true h11
    obtain ⟨⟨x, y⟩, hqq⟩ : ∃ q, ps[g]? = some q := ⟨_, List.getElem?_eq_getElem (by omega)⟩
    have hb := hbq _ (List.mem_of_getElem? hqq)
    have hfs := foldl_take (fun (n : Nat) (p : Rat × Rat) => max (max n (nD p.1)) (nD p.2)) 0 hqq
    haveI z1 : Sz (dig x.num.natAbs) k := ⟨dig_length_le hb.1.num⟩
    haveI z2 : Sz (dig x.den) k := ⟨dig_length_le hb.1.den⟩
    haveI z3 : Sz (dig y.num.natAbs) k := ⟨dig_length_le hb.2.num⟩
    haveI z4 : Sz (dig y.den) k := ⟨dig_length_le hb.2.den⟩
    refine T_skip ?_
    refine T_seq ?_
    refine T_block ?_
    refine T_draw 37 (by kernel_rfl) ?_
    iterate 3 refine Run.one (ok_move rfl rfl) rfl rfl rfl ?_
    refine Run.one (ok_indexAddr rfl rfl rfl (by omega) (y := (x, y)) (hqq)) rfl rfl rfl ?_
    iterate 3 refine Run.one (ok_fieldAddr rfl rfl rfl) rfl rfl rfl ?_
    refine Run.one (ok_load rfl rfl) rfl rfl rfl ?_
    refine Run.one (ok_call rfl rfl (rtext_spec (l := dig x.num.natAbs) (n := x.num.natAbs) (k := k) (by omega))) rfl rfl rfl ?_
    refine Run.one (ok_len_str rfl rfl) rfl rfl rfl ?_
    iterate 2 refine Run.one (ok_move rfl rfl) rfl rfl rfl ?_
    refine Run.one (ok_indexAddr rfl rfl rfl (by omega) (y := (x, y)) (hqq)) rfl rfl rfl ?_
    iterate 2 refine Run.one (ok_fieldAddr rfl rfl rfl) rfl rfl rfl ?_
    refine Run.one (ok_load rfl rfl) rfl rfl rfl ?_
    refine Run.one (ok_call rfl rfl (rtext_spec (l := dig x.den) (n := x.den) (k := k) (by omega))) rfl rfl rfl ?_
    refine Run.one (ok_len_str rfl rfl) rfl rfl rfl ?_
    iterate 2 refine Run.one (ok_move rfl rfl) rfl rfl rfl ?_
    refine Run.one (ok_indexAddr rfl rfl rfl (by omega) (y := (x, y)) (hqq)) rfl rfl rfl ?_
    iterate 3 refine Run.one (ok_fieldAddr rfl rfl rfl) rfl rfl rfl ?_
    refine Run.one (ok_load rfl rfl) rfl rfl rfl ?_
    refine Run.one (ok_call rfl rfl (rtext_spec (l := dig y.num.natAbs) (n := y.num.natAbs) (k := k) (by omega))) rfl rfl rfl ?_
    refine Run.one (ok_len_str rfl rfl) rfl rfl rfl ?_
    iterate 2 refine Run.one (ok_move rfl rfl) rfl rfl rfl ?_
    refine Run.one (ok_indexAddr rfl rfl rfl (by omega) (y := (x, y)) (hqq)) rfl rfl rfl ?_
    iterate 2 refine Run.one (ok_fieldAddr rfl rfl rfl) rfl rfl rfl ?_
    refine Run.one (ok_load rfl rfl) rfl rfl rfl ?_
    refine Run.one (ok_call rfl rfl (rtext_spec (l := dig y.den) (n := y.den) (k := k) (by omega))) rfl rfl rfl ?_
    refine Run.one (ok_len_str rfl rfl) rfl rfl rfl ?_
    refine Run.one ((ok_max5 rfl rfl rfl rfl rfl rfl).sub (int_eq (n := ((max (max acc (nD x)) (nD y) : Nat) : Int)) (by rw [dec_len, dec_len, dec_len, dec_len]; unfold nD; omega))) rfl rfl rfl ?_
    refine Run.one (ok_assign rfl rfl) rfl rfl rfl ?_
    iterate 2 refine Run.nil ?_
    refine T_region ?_
    refine Run.one (ok_move rfl rfl) rfl rfl rfl ?_
    refine Run.one (ok_ari (z := ((g + 1 : Nat) : Int)) rfl rfl rfl (congrArg some (by omega)) (wrap_i64 (by omega) (by omega))) rfl rfl rfl ?_
    refine Run.one (ok_assign rfl rfl) rfl rfl rfl ?_
    refine Run.nil ?_
    exact ⟨g + 1, max (max acc (nD x)) (nD y), ⟨by omega, by rw [hfs, ← hacc]⟩, by omega, ent_g (subG_cons rfl (subG_cons rfl (subG_cons rfl (trivial))))⟩
  · have k11 := of_decide_eq_false h11
    obtain rfl : g = ps.length := by omega
    rw [List.take_length] at hacc
    refine T_exit ?_
    refine T_regionS ?_
    refine Run.one (ok_move rfl rfl) rfl rfl rfl ?_
    refine Run.one (ok_assign rfl rfl) rfl rfl rfl ?_
    refine Run.nil ?_
    refine T_ret ?_
    exact ⟨_, [], .one (.tmp rfl), List.nil_sublist _, by rw [hacc]; rfl, rfl⟩
end Go.Proofs
/- A scene's text, read again; what any text is read as: plain facts. -/
namespace Num
open Go Go.Lib Go.Proofs
theorem wd_rob : wdOk wRob := ⟨by decide, by decide⟩
theorem dgF_gt {n : Nat} {l : List (Rat × Rat)} : n < dgF 0 l ↔ ∃ p ∈ l, n < nD p.1 ∨ n < nD p.2 := by
  induction l with
  | nil => simp [dgF]
  | cons p l ih =>
    rw [dgF_cons]
    constructor
    · intro h
      by_cases h1 : n < nD p.1 ∨ n < nD p.2
      · exact ⟨p, by simp, h1⟩
      · obtain ⟨q, hq, hh⟩ := ih.1 (by omega)
        exact ⟨q, by simp [hq], hh⟩
    · rintro ⟨q, hq, hh⟩
      rcases List.mem_cons.1 hq with rfl | hq
      · omega
      · have := ih.2 ⟨q, hq, hh⟩; omega
/-! what any text is read as -/
def rdPts (rd : Rd) : List (Rat × Rat) := qsPts (rd.rob, rd.obs, rd.que)
structure RInv (rd : Rd) : Prop where
  code : rd.code = 0 ∨ rd.code = 2 ∨ rd.code = 3
  obs : ∀ l ∈ rd.obs, l ≠ []
  dig : rd.code = 0 → ∀ p ∈ rdPts rd, nD p.1 ≤ 6 ∧ nD p.2 ≤ 6
end Num
/- The law SceneBack, on the facts. -/
namespace Go.Proofs
open Go Go.Sv Num
variable {G : Imm}
end Go.Proofs
