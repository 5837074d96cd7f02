/- scene: what it is made of, its points, how many digits. -/
import Derived.Test.YtcdlcfihjfhkgaaGreatDoorSss
import Derived.Test.YtcdlcfihjfhkgaaGreatDoorSv7
import Derived.Test.YtcdlcfihjfhkgaaGreatDoorSnx
import Derived.Test.YtcdlcfihjfhkgaaGreatDoorSsq
namespace Num
open Go Go.Lib
abbrev RQ := Bool × List Nat × List Nat
abbrev RP := RQ × RQ
abbrev Sc := List RP × List (List RP) × List (RP × RP)
abbrev wRob : List UInt8 := [114, 111, 98, 111, 116]
abbrev wObs : List UInt8 := [111, 98, 115, 116, 97, 99, 108, 101]
abbrev wQue : List UInt8 := [113, 117, 101, 114, 121]
def scL (s : Sc) : List (List UInt8 × List RP) := (wRob, s.1) :: (s.2.1.map (fun l => (wObs, l)) ++ s.2.2.map fun q => (wQue, [q.1, q.2]))
theorem scL_obs {s : Sc} {k : Nat} {l : List RP} (h : s.2.1[k]? = some l) : (scL s)[k + 1]? = some (wObs, l) := by
  have hk := (List.getElem?_eq_some_iff.1 h).1
  unfold scL
  rw [List.getElem?_cons_succ, List.getElem?_append_left (by simpa using hk), List.getElem?_map, h]; rfl
theorem scL_que {s : Sc} {k : Nat} {q : RP × RP} (h : s.2.2[k]? = some q) : (scL s)[s.2.1.length + k + 1]? = some (wQue, [q.1, q.2]) := by
  unfold scL
  rw [List.getElem?_cons_succ, List.getElem?_append_right (by simp), List.getElem?_map, List.length_map, Nat.add_sub_cancel_left, h]; rfl
theorem scL_len (s : Sc) : (scL s).length = s.2.1.length + s.2.2.length + 1 := by simp [scL]
def rawQ (q : Rat) : RQ := (decide (q.num < 0), dig q.num.natAbs, dig q.den)
def rawP (p : Rat × Rat) : RP := (rawQ p.1, rawQ p.2)
def scPts (s : Sc) : List RP := (scL s).flatMap (·.2)
theorem flat_take_le {α β : Type} (f : α → List β) (l : List α) (k : Nat) : ((l.take k).flatMap f).length ≤ (l.flatMap f).length := by
  conv => rhs; rw [← List.take_append_drop k l, List.flatMap_append, List.length_append]
  omega
theorem flat_succ {α β : Type} (f : α → List β) {l : List α} {k : Nat} {x : α} (h : l[k]? = some x) : (l.take (k + 1)).flatMap f = (l.take k).flatMap f ++ f x := by
  rw [List.take_add_one, h, List.flatMap_append]; simp
def nD (q : Rat) : Nat := max (nDigits q.num.natAbs) (nDigits q.den)
end Num
namespace Go.Proofs
open Go Go.Sv Num
variable {G : Imm}
structure ScOk (s : Sc) (k n : Nat) : Prop where
  pos : 0 < k
  pt : ∀ x ∈ scL s, ∀ p ∈ x.2, PtOk k p
  len : (scPts s).length ≤ n
  row : (scL s).length ≤ n
theorem ScOk.lrow {s : Sc} {k n : Nat} (h : ScOk s k n) {x : List UInt8 × List RP} (hx : x ∈ scL s) : x.2.length ≤ n := by
  obtain ⟨i, hi⟩ := List.getElem?_of_mem hx
  have h1 := flat_succ (fun x : List UInt8 × List RP => x.2) hi
  have h2 := flat_take_le (fun x : List UInt8 × List RP => x.2) (scL s) (i + 1)
  have h3 := h.len
  unfold scPts at h3
  rw [h1, List.length_append] at h2
  omega
theorem mem_rob (s : Sc) : (wRob, s.1) ∈ scL s := by simp [scL]
theorem mem_obs {s : Sc} {l : List RP} (h : l ∈ s.2.1) : (wObs, l) ∈ scL s := by
  obtain ⟨i, hi⟩ := List.getElem?_of_mem h; exact List.mem_of_getElem? (scL_obs hi)
theorem mem_que {s : Sc} {q : RP × RP} (h : q ∈ s.2.2) : (wQue, [q.1, q.2]) ∈ scL s := by
  obtain ⟨i, hi⟩ := List.getElem?_of_mem h; exact List.mem_of_getElem? (scL_que hi)
theorem rawQ_qv (q : Rat) : qv (rawQ q) = q := by
  show mkRat (sgn (decide (q.num < 0)) (val (dig q.num.natAbs))) (val (dig q.den)) = q
  rw [val_dig, val_dig, sgn_self]; exact Rat.mkRat_self q
abbrev rowC (l : List RP) : List SV := [slS 6 pc l]
abbrev queC (q : RP × RP) : List SV := pc q.1 ++ pc q.2
abbrev scC (s : Sc) : List SV := [slS 6 pc s.1, slS 1 rowC s.2.1, slS 12 queC s.2.2]
abbrev lnC (x : List UInt8 × List RP) : List SV := [strS x.1, slS 6 pc x.2]
theorem ok_max3 {P : Program} {G : Imm} {H : HL} {o : Oper} {g : List (Nat × SV)} {x y z : Operand} {ts : Array TypeId} {k : IntKind} {m n p : Int} (hop : o.op = .call { callee := .builtin .max, args := #[x, y, z], argTypes := ts }) (hx : opE g x = some (intS k m)) (hy : opE g y = some (intS k n)) (hz : opE g z = some (intS k p)) : OpOK P G H o g (intS k (max (max m n) p)) :=
  ok_pure (by simp [hop]) fun I W a _ _ hr => by
    have h1 : a.eval x = .int k m := hr.get (by simp [hop, Op.operands, Call.operands]) hx
    have h2 : a.eval y = .int k n := hr.get (by simp [hop, Op.operands, Call.operands]) hy
    have h3 : a.eval z = .int k p := hr.get (by simp [hop, Op.operands, Call.operands]) hz
    refine ⟨_, ?_, rfl⟩
    have e : ∀ u v : Int, (if v > u then v else u) = max u v := fun u v => by rw [Int.max_def]; split <;> split <;> omega
    simp [execOp, hop, resolve, invoke, builtin, Builtin.max_, Builtin.max2, h1, h2, h3, e]
theorem lnC_len {xs : List (List UInt8 × List RP)} {ss : List SV} (h : ss ∈ xs.map lnC) : ss.length = 2 := by
  obtain ⟨x, _, rfl⟩ := List.mem_map.1 h; rfl
theorem lnC_inv {xs : List (List UInt8 × List RP)} {k : Nat} {ss : List SV} (h : (xs.map lnC)[k]? = some ss) : ∃ x, xs[k]? = some x ∧ ss = lnC x := by
  rw [List.getElem?_map] at h
  rcases hx : xs[k]? with _ | x
  · rw [hx] at h; cases h
  · rw [hx] at h; cases h; exact ⟨x, rfl, rfl⟩
theorem lines1_spec {s : Sc} : IterSpec Tryz.prog G 117 [ptrS (scC s)] ((scL s).map lnC) := by
  refine iter_spec Tryz.func117 rfl rfl rfl rfl fun l E hy => ?_
  refine T_seq ?_
  refine T_regionS ?_
  refine Run.one (ok_move rfl rfl) rfl rfl rfl ?_
  refine Run.one (ok_fieldAddr rfl rfl rfl) rfl rfl rfl ?_
  refine Run.one (ok_load rfl rfl) rfl rfl rfl ?_
  refine Run.yield rfl hy rfl rfl rfl (show ((scL s).map lnC)[0]? = some (lnC (wRob, s.1)) from rfl) (subL_refl _) rfl rfl rfl fun y => ?_
  refine Run.one (ok_not rfl rfl) rfl rfl rfl ?_
  refine Run.nil ?_
  refine T_cond rfl rfl (fun h11 => ?_) (fun h11 => ?_)
  · refine T_ret ?_
    exact ⟨.inl rfl, .inr h11⟩
  · refine T_skip ?_
    refine T_seq ?_
    refine T_regionS ?_
    refine Run.one (ok_fieldAddr rfl rfl rfl) rfl rfl rfl ?_
    refine Run.one (ok_load rfl rfl) rfl rfl rfl ?_
    refine Run.one (ok_len rfl rfl) rfl rfl rfl ?_
    refine Run.one (ok_move rfl rfl) rfl rfl rfl ?_
    refine Run.nil ?_
    refine T_block ?_
    refine T_len 13 rfl fun la => ?_
    unfold big at la
    refine T_loop (γ := Nat) (fun g => ⟨_, [(15, intS .i64 (g : Nat)), (14, intS .i64 s.2.1.length), (13, slS 1 rowC s.2.1), (0, yieldS l), (1, ptrS (scC s))], [], [], (g + 1, false)⟩) (fun g => g ≤ s.2.1.length) (fun g => s.2.1.length - g) 0 (Nat.zero_le _) ⟨rfl, subG_cons rfl (subG_cons rfl (subG_cons rfl (subG_cons rfl (subG_cons rfl (trivial))))), subH_refl _, rfl, by simp only; rw [h11]⟩ ?_
    intro g hg
    refine T_regionS ?_
    refine Run.one (ok_cmp rfl rfl rfl rfl) rfl rfl rfl ?_
    refine Run.nil ?_
    refine T_seq ?_
    refine T_cond rfl rfl (fun h16 => ?_) (fun h16 => ?_)
    · have k16 := of_decide_eq_true h16
      obtain ⟨rw, hrw⟩ : ∃ rw, s.2.1[g]? = some rw := ⟨_, List.getElem?_eq_getElem (by omega)⟩
      refine T_skip ?_
      refine T_seq ?_
      refine T_block ?_
      refine T_regionS ?_
      refine Run.one (ok_indexAddr rfl rfl rfl (by omega) (y := rw) (hrw)) rfl rfl rfl ?_
      refine Run.one (ok_load rfl rfl) rfl rfl rfl ?_
      refine Run.one (ok_assign rfl rfl) rfl rfl rfl ?_
      refine Run.nil ?_
      refine T_regionS ?_
      iterate 2 refine Run.one (ok_move rfl rfl) rfl rfl rfl ?_
      refine Run.yield rfl hy rfl rfl rfl (show ((scL s).map lnC)[g + 1]? = some (lnC (wObs, rw)) by rw [List.getElem?_map, scL_obs hrw]; rfl) (subL_refl _) rfl rfl rfl fun y2 => ?_
      refine Run.one (ok_not rfl rfl) rfl rfl rfl ?_
      refine Run.nil ?_
      refine T_cond rfl rfl (fun h22 => ?_) (fun h22 => ?_)
      · refine T_ret ?_
        exact ⟨.inl rfl, .inr h22⟩
      · refine T_skip ?_
        refine T_region ?_
        refine Run.one (ok_ari (z := ((g + 1 : Nat) : Int)) rfl rfl rfl (congrArg some (by omega)) (wrap_i64 (by omega) (by omega))) rfl rfl rfl ?_
        refine Run.one (ok_move rfl rfl) rfl rfl rfl ?_
        refine Run.nil ?_
        exact ⟨g + 1, (by omega : g + 1 ≤ s.2.1.length), by omega, rfl, subG_cons rfl (subG_cons rfl (subG_cons rfl (subG_cons rfl (subG_cons rfl (trivial))))), subH_refl _, rfl, by simp only; rw [h22]⟩
    · have k16 := of_decide_eq_false h16
      obtain rfl : g = s.2.1.length := by omega
      refine T_exit ?_
      refine T_regionS ?_
      refine Run.one (ok_fieldAddr rfl rfl rfl) rfl rfl rfl ?_
      refine Run.one (ok_load rfl rfl) rfl rfl rfl ?_
      refine Run.one (ok_len rfl rfl) rfl rfl rfl ?_
      refine Run.one (ok_move rfl rfl) rfl rfl rfl ?_
      refine Run.nil ?_
      refine T_block ?_
      refine T_len 25 rfl fun lb => ?_
      unfold big at lb
      refine T_loop (γ := Nat) (fun g => ⟨_, [(27, intS .i64 (g : Nat)), (26, intS .i64 s.2.2.length), (25, slS 12 queC s.2.2), (0, yieldS l), (1, ptrS (scC s))], [], [], (s.2.1.length + g + 1, false)⟩) (fun g => g ≤ s.2.2.length) (fun g => s.2.2.length - g) 0 (Nat.zero_le _) (ent_g (subG_cons rfl (subG_cons rfl (subG_cons rfl (subG_cons rfl (subG_cons rfl (trivial))))))) ?_
      intro g hg
      refine T_regionS ?_
      refine Run.one (ok_cmp rfl rfl rfl rfl) rfl rfl rfl ?_
      refine Run.nil ?_
      refine T_seq ?_
      refine T_cond rfl rfl (fun h28 => ?_) (fun h28 => ?_)
      · have k28 := of_decide_eq_true h28
        obtain ⟨⟨⟨⟨b1, l1, d1⟩, ⟨c1, m1, e1⟩⟩, ⟨⟨b2, l2, d2⟩, ⟨c2, m2, e2⟩⟩⟩, hqu⟩ : ∃ p, s.2.2[g]? = some p := ⟨_, List.getElem?_eq_getElem (by omega)⟩
        refine T_skip ?_
        refine T_seq ?_
        refine T_block ?_
        refine T_regionS ?_
        refine Run.one (ok_indexAddr rfl rfl rfl (by omega) (y := (((b1, l1, d1), (c1, m1, e1)), ((b2, l2, d2), (c2, m2, e2)))) (hqu)) rfl rfl rfl ?_
        refine Run.one ((show OpOK _ _ _ _ _ (aggS (queC (((b1, l1, d1), (c1, m1, e1)), ((b2, l2, d2), (c2, m2, e2))))) from ok_load_agg rfl rfl rfl rfl)) rfl rfl rfl ?_
        refine Run.alloc rfl rfl rfl rfl rfl fun b6 => ?_
        refine Run.store 0 rfl rfl rfl rfl rfl rfl rfl rfl rfl ?_
        refine Run.nil ?_
        refine T_regionS ?_
        refine Run.one (ok_move rfl rfl) rfl rfl rfl ?_
        refine Run.one (ok_fieldAddr_eq rfl rfl rfl) rfl rfl rfl ?_
        refine Run.one ((show OpOK _ _ _ _ _ (aggS (pc ((b1, l1, d1), (c1, m1, e1)))) from ok_load_own_agg 0 rfl rfl rfl rfl rfl)) rfl rfl rfl ?_
        refine Run.one (ok_fieldAddr_eq rfl rfl rfl) rfl rfl rfl ?_
        refine Run.one ((show OpOK _ _ _ _ _ (aggS (pc ((b2, l2, d2), (c2, m2, e2)))) from ok_load_own_agg 0 rfl rfl rfl rfl rfl)) rfl rfl rfl ?_
        refine Run.one (ok_buildSlice rfl rfl (by decide) rfl (by simp) rfl rfl) rfl rfl rfl ?_
        refine Run.yield rfl hy rfl rfl rfl (show ((scL s).map lnC)[s.2.1.length + g + 1]? = some (lnC (wQue, [((b1, l1, d1), (c1, m1, e1)), ((b2, l2, d2), (c2, m2, e2))])) by rw [List.getElem?_map, scL_que hqu]; rfl) ⟨fun _ _ h => h, fun I v h => sl_map (f := pc) (l := [((b1, l1, d1), (c1, m1, e1)), ((b2, l2, d2), (c2, m2, e2))]) h, trivial⟩ rfl rfl rfl fun y3 => ?_
        refine Run.one (ok_not rfl rfl) rfl rfl rfl ?_
        refine Run.nil ?_
        refine T_cond rfl rfl (fun h38 => ?_) (fun h38 => ?_)
        · refine T_ret ?_
          exact ⟨.inl rfl, .inr h38⟩
        · refine T_skip ?_
          refine T_ghost (ghost_drop (h' := []) (List.nil_sublist _)) ?_
          refine T_region ?_
          refine Run.one (ok_ari (z := ((g + 1 : Nat) : Int)) rfl rfl rfl (congrArg some (by omega)) (wrap_i64 (by omega) (by omega))) rfl rfl rfl ?_
          refine Run.one (ok_move rfl rfl) rfl rfl rfl ?_
          refine Run.nil ?_
          exact ⟨g + 1, (by omega : g + 1 ≤ s.2.2.length), by omega, rfl, subG_cons rfl (subG_cons rfl (subG_cons rfl (subG_cons rfl (subG_cons rfl (trivial))))), subH_refl _, rfl, by simp only; rw [h38]; exact congrArg (·, false) (by omega)⟩
      · have k28 := of_decide_eq_false h28
        refine T_exit ?_
        exact ⟨.inr rfl, .inl (by rw [List.length_map, scL_len, show g = s.2.2.length by omega])⟩
theorem slines_spec {s : Sc} : PSpec Tryz.prog G 77 [aggS (scC s)] (fnS 117 [ptrS (scC s)]) := by
  refine fn_spec Tryz.func77 rfl rfl rfl ?_
  refine T_regionS ?_
  refine Run.one (ok_box rfl rfl) rfl rfl rfl ?_
  refine Run.one (ok_assign rfl rfl) rfl rfl rfl ?_
  refine Run.nil ?_
  refine T_regionS ?_
  refine Run.one (ok_makeFunc rfl rfl) rfl rfl rfl ?_
  refine Run.one (ok_assign rfl rfl) rfl rfl rfl ?_
  refine Run.nil ?_
  refine T_ret ?_
  exact ⟨_, [], .one (.tmp rfl), List.nil_sublist _, rfl, rfl⟩
theorem points_spec [Tab G] {s : Sc} {k n : Nat} (h : ScOk s k n) (hs : 2 * k + 11000 ≤ cap) (hn : n ≤ 1000000) : PSpec Tryz.prog G 44 [aggS (scC s)] (slS 6 pcan ((scPts s).map pv)) := by
  unfold cap at hs
  have hlen := h.len
  unfold scPts at hlen
  refine fn_spec Tryz.func44 rfl rfl rfl ?_
  refine T_regionS ?_
  refine Run.one (ok_box rfl rfl) rfl rfl rfl ?_
  refine Run.alloc rfl rfl rfl rfl rfl fun b2 => ?_
  refine Run.nil ?_
  refine T_seq ?_
  refine T_regionS ?_
  refine Run.one (ok_load_agg rfl rfl rfl rfl) rfl rfl rfl ?_
  refine Run.one (ok_call rfl rfl slines_spec) rfl rfl rfl ?_
  refine Run.nil ?_
  refine T_block ?_
  refine T_ghost (ghost_row 68 6) ?_
  refine T_rng rfl rfl lines1_spec (fun ss h => lnC_len h) (by decide) rfl
      (fun k h i => i = (0, false) ∧ ∃ q, rowOk q ((((scL s).take k).flatMap (·.2)).map pv).length ∧ h = [rowE q 68 6 ((((scL s).take k).flatMap (·.2)).map pv).length (((((scL s).take k).flatMap (·.2)).map pv).flatMap pcan), ⟨some b2, 53, [eqS (rowV q ((((scL s).take k).flatMap (·.2)).map pv).length)], 0⟩])
      (fun _ _ _ => False) ⟨rfl, none, rfl, rfl⟩ ?_ ?_ ?_
  · rintro l1 j ss h1 i hk1 ⟨rfl, q, hq, rfl⟩
    obtain ⟨⟨w, row⟩, hw, rfl⟩ := lnC_inv hk1
    have hst := flat_succ (fun x : List UInt8 × List RP => x.2) hw
    have htl := flat_take_le (fun x : List UInt8 × List RP => x.2) (scL s) (j + 1)
    rw [hst, List.length_append] at htl
    have hpt := h.pt _ (List.mem_of_getElem? hw)
    obtain ⟨A, hA⟩ : ∃ A, A = ((((scL s).take j).flatMap (·.2)).map pv) := ⟨_, rfl⟩
    have hAl : A.length ≤ 1000000 - row.length := by rw [hA, List.length_map]; simp only at htl; omega
    have hrl : row.length ≤ 1000000 := by simp only at htl; omega
    rw [← hA] at hq ⊢
    refine T_region ?_
    refine Run.one (ok_assign rfl rfl) rfl rfl rfl ?_
    refine Run.nil ?_
    refine ⟨rfl, ?_⟩
    refine T_block ?_
    refine T_drawM 5 [3, 4] _ (by kernel_rfl) (.cons _ (.cons _ .slnil)) ?_
    refine RunE.one (ok_load_own 1 rfl rfl rfl rfl) rfl rfl rfl (by kernel_rfl) ?_
    refine RunE.one (ok_move rfl rfl) rfl rfl rfl (by kernel_rfl) ?_
    refine RunE.one (ok_call rfl rfl (vNorm_spec h.pos hpt (by unfold cap; omega) (by unfold cap; omega))) rfl rfl rfl (by kernel_rfl) ?_
    refine RunE.nil ⟨_, rfl, ?_⟩
    refine EffM.append 0 rfl rfl rfl rfl rfl rfl rfl hq (by rw [flat_pcan]) (fun z hz => rfl) (by unfold big; simp only [List.length_map]; exact Nat.le_trans (Nat.mul_le_mul_right _ (show _ ≤ 1000000 by omega)) (by decide)) (by unfold big; simp; omega) fun q12 hq12 => ⟨(.cons _ (.cons _ .slnil)), ?_⟩
    refine RunE.nil ⟨_, rfl, ?_⟩
    refine .loc1n 1 (l_store rfl rfl rfl rfl (by first | decide | (simp; done) | (simp; omega))) rfl rfl rfl ?_
    rintro s1 H1 ⟨rfl, rfl⟩
    refine ⟨(.cons _ (.cons _ .slnil)), ?_⟩
    refine RunE.nil ?_
    refine Run.nil ?_
    have hB : ((((scL s).take (j + 1)).flatMap (·.2)).map pv) = A ++ row.map pv := by rw [hst, List.map_append, ← hA]
    exact ⟨rfl, q12, by rw [hB, List.length_append]; exact hq12, by rw [hB, List.length_append, List.flatMap_append]; rfl⟩
  · rintro h1 i D ⟨rfl, q, hq, rfl⟩
    rw [List.length_map lnC, List.take_length] at *
    refine T_ghost (ghost_slc [] [] [] hq (l := ((scL s).flatMap (·.2)).map pv) (f := pcan) rfl rfl (fun _ _ => rfl) (by unfold big; rw [List.length_map]; omega)) ?_
    refine T_regionS ?_
    refine Run.one (ok_load_own 0 rfl rfl rfl rfl) rfl rfl rfl ?_
    refine Run.store 0 rfl rfl rfl rfl rfl rfl rfl rfl rfl ?_
    refine Run.nil ?_
    refine T_ret ?_
    exact ⟨_, [], .one (.own 0 inferInstance rfl rfl rfl), List.nil_sublist _, rfl, rfl⟩
  · intro h i D e c hc hInv; exact hInv.elim
theorem digits1_spec [Tab G] [Tab10 G] {qs : List Rat} {k b n : Nat} (hq : ∀ q ∈ qs, Bq q k) (hs : 2 * k + 31000 ≤ cap) : CallSpec Tryz.prog G 89 [slS 3 canQ qs, eqS (.pointer (some ⟨b, 0, none⟩))] [⟨some b, 3, [intS .i64 (n : Nat)], 0⟩] (fun v H' => v = tupS [] ∧ H' = [⟨some b, 3, [intS .i64 (qs.foldl (fun (n : Nat) (q : Rat) => max n (nD q)) n : Nat)], 0⟩]) := by
  refine fn_spec Tryz.func89 rfl rfl rfl ?_
  refine T_regionS ?_
  refine Run.one (ok_move rfl rfl) rfl rfl rfl ?_
  refine Run.one (ok_len rfl rfl) rfl rfl rfl ?_
  refine Run.one (ok_move rfl rfl) rfl rfl rfl ?_
  refine Run.nil ?_
  refine T_block ?_
  refine T_len 5 rfl fun la => ?_
  unfold big at la
  refine T_loop2 (fun (g acc : Nat) => ⟨_, [(7, intS .i64 (g : Nat)), (6, intS .i64 qs.length), (5, slS 3 canQ qs), (1, eqS (.pointer (some ⟨b, 0, none⟩)))], [⟨some b, 3, [intS .i64 (acc : Nat)], 0⟩], [], (0, false)⟩) (fun g acc => g ≤ qs.length ∧ acc = (qs.take g).foldl (fun (n : Nat) (q : Rat) => max n (nD q)) n) (fun g _ => qs.length - g) 0 n ⟨Nat.zero_le _, rfl⟩ (ent_h (subG_cons rfl (subG_cons rfl (subG_cons rfl (subG_cons rfl (trivial))))) rfl) ?_
  rintro g acc ⟨hg, hacc⟩
  refine T_regionS ?_
  refine Run.one (ok_cmp rfl rfl rfl rfl) rfl rfl rfl ?_
  refine Run.nil ?_
  refine T_seq ?_
  refine T_cond rfl rfl (fun h8 => ?_) (fun h8 => ?_)
  · have k8 := of_decide_eq_true h8
    obtain ⟨q, hqq⟩ : ∃ q, qs[g]? = some q := ⟨_, List.getElem?_eq_getElem (by omega)⟩
    haveI hb := hq q (List.mem_of_getElem? hqq)
    have hfs := foldl_take (fun (n : Nat) (q : Rat) => max n (nD q)) n hqq
    haveI z1 : Sz (dig q.num.natAbs) k := ⟨dig_length_le hb.num⟩
    haveI z2 : Sz (dig q.den) k := ⟨dig_length_le hb.den⟩
    refine T_skip ?_
    refine T_seq ?_
    refine T_block ?_
    refine T_regionS ?_
    refine Run.one (ok_indexAddr rfl rfl rfl (by omega) (y := q) (hqq)) rfl rfl rfl ?_
    refine Run.one ((show OpOK _ _ _ _ _ (aggS (canQ q)) from ok_load_agg rfl rfl rfl rfl)) rfl rfl rfl ?_
    refine Run.alloc rfl rfl rfl rfl rfl fun b4 => ?_
    refine Run.store 0 rfl rfl rfl rfl rfl rfl rfl rfl rfl ?_
    refine Run.nil ?_
    refine T_regionS ?_
    refine Run.one ((show OpOK _ _ _ _ _ (aggS (canQ q)) from ok_load_own_agg 0 rfl rfl rfl rfl rfl)) rfl rfl rfl ?_
    refine Run.one (ok_call rfl rfl (qNorm_spec (q := q) (k := k) (by omega))) rfl rfl rfl ?_
    refine Run.store 0 rfl rfl rfl rfl rfl rfl rfl rfl rfl ?_
    refine Run.nil ?_
    refine T_draw 9 (by kernel_rfl) ?_
    refine Run.one (ok_load_own 1 rfl rfl rfl rfl) rfl rfl rfl ?_
    iterate 2 refine Run.one (ok_fieldAddr_eq rfl rfl rfl) rfl rfl rfl ?_
    refine Run.one (ok_load_own 0 rfl rfl rfl rfl) rfl rfl rfl ?_
    refine Run.one (ok_call rfl rfl (dcount_spec (l := dig q.num.natAbs) (n := q.num.natAbs) (k := k) (by omega))) rfl rfl rfl ?_
    refine Run.one (ok_fieldAddr_eq rfl rfl rfl) rfl rfl rfl ?_
    refine Run.one (ok_load_own 0 rfl rfl rfl rfl) rfl rfl rfl ?_
    refine Run.one (ok_call rfl rfl (dcount_spec (l := dig q.den) (n := q.den) (k := k) (by omega))) rfl rfl rfl ?_
    refine Run.one ((ok_max3 rfl rfl rfl rfl).sub (int_eq (n := ((max acc (nD q) : Nat) : Int)) (by unfold nD; omega))) rfl rfl rfl ?_
    refine Run.nil ?_
    refine Run.store 1 rfl rfl rfl rfl rfl rfl rfl rfl rfl ?_
    refine Run.nil ?_
    refine T_ghost (ghost_drop (List.sublist_cons_self _ _)) ?_
    refine T_region ?_
    refine Run.one (ok_ari (z := ((g + 1 : Nat) : Int)) rfl rfl rfl (congrArg some (by omega)) (wrap_i64 (by omega) (by omega))) rfl rfl rfl ?_
    refine Run.one (ok_move rfl rfl) rfl rfl rfl ?_
    refine Run.nil ?_
    exact ⟨g + 1, max acc (nD q), ⟨by omega, by rw [hfs, ← hacc]⟩, by omega, ent_h (subG_cons rfl (subG_cons rfl (subG_cons rfl (subG_cons rfl (trivial))))) rfl⟩
  · have k8 := of_decide_eq_false h8
    obtain rfl : g = qs.length := by omega
    rw [List.take_length] at hacc
    refine T_exit ?_
    exact ⟨_, [_], .none, List.Sublist.refl _, rfl, by rw [hacc]⟩
theorem sdigits_spec [Tab G] [Tab10 G] {s : Sc} {k n : Nat} (h : ScOk s k n) (hs : 2 * k + 31000 ≤ cap) (hn : n ≤ 1000000) : PSpec Tryz.prog G 45 [aggS (scC s)] (intS .i64 ((((scPts s).map pv).foldl (fun (n : Nat) (p : Rat × Rat) => max (max n (nD p.1)) (nD p.2)) 0 : Nat) : Int)) := by
  have hbq : ∀ p ∈ (scPts s).map pv, Bq p.1 k ∧ Bq p.2 k := fun p hp => by
    obtain ⟨r, hr, rfl⟩ := List.mem_map.1 hp
    obtain ⟨x, hx, hrx⟩ := List.mem_flatMap.1 hr
    have ho := h.pt x hx r hrx
    exact ⟨(isQ_lim ho.1 h.pos).bq, (isQ_lim ho.2 h.pos).bq⟩
  obtain ⟨ps, hps⟩ : ∃ ps, ps = (scPts s).map pv := ⟨_, rfl⟩
  have hpt := points_spec (G := G) h (by omega) hn
  rw [← hps] at hpt hbq ⊢
  refine fn_spec Tryz.func45 rfl rfl rfl ?_
  refine T_regionS ?_
  refine Run.one (ok_box rfl rfl) rfl rfl rfl ?_
  refine Run.alloc rfl rfl rfl rfl rfl fun b2 => ?_
  refine Run.nil ?_
  refine T_regionS ?_
  refine Run.one (ok_makeFunc rfl rfl) rfl rfl rfl ?_
  refine Run.one (ok_assign rfl rfl) rfl rfl rfl ?_
  refine Run.nil ?_
  refine T_seq ?_
  refine T_regionS ?_
  refine Run.one (ok_load_agg rfl rfl rfl rfl) rfl rfl rfl ?_
  refine Run.one (ok_call rfl rfl hpt) rfl rfl rfl ?_
  refine Run.one (ok_len rfl rfl) rfl rfl rfl ?_
  refine Run.one (ok_move rfl rfl) rfl rfl rfl ?_
  refine Run.nil ?_
  refine T_block ?_
  refine T_len 8 rfl fun la => ?_
  unfold big at la
  refine T_loop2 (fun (g acc : Nat) => ⟨_, [(10, intS .i64 (g : Nat)), (9, intS .i64 ps.length), (8, slS 6 pcan ps), (3, fnS 89 [eqS (.pointer (some ⟨b2, 0, none⟩))]), (2, eqS (.pointer (some ⟨b2, 0, none⟩)))], [⟨some b2, 3, [intS .i64 (acc : Nat)], 0⟩], [], (0, false)⟩) (fun g acc => g ≤ ps.length ∧ acc = (ps.take g).foldl (fun (n : Nat) (p : Rat × Rat) => max (max n (nD p.1)) (nD p.2)) 0) (fun g _ => ps.length - g) 0 0 ⟨Nat.zero_le _, rfl⟩ (ent_h (subG_cons rfl (subG_cons rfl (subG_cons rfl (subG_cons rfl (subG_cons rfl (trivial)))))) rfl) ?_
  rintro g acc ⟨hg, hacc⟩
  refine T_regionS ?_
  refine Run.one (ok_cmp rfl rfl rfl rfl) rfl rfl rfl ?_
  refine Run.nil ?_
  refine T_seq ?_
  refine T_cond rfl rfl (fun h11 => ?_) (fun h11 => ?_)
  · have k11 := of_decide_eq_true h11
    obtain ⟨⟨x, y⟩, hqq⟩ : ∃ q, ps[g]? = some q := ⟨_, List.getElem?_eq_getElem (by omega)⟩
    have hb := hbq _ (List.mem_of_getElem? hqq)
    have hfs := foldl_take (fun (n : Nat) (p : Rat × Rat) => max (max n (nD p.1)) (nD p.2)) 0 hqq
    refine T_skip ?_
    refine T_seq ?_
    refine T_block ?_
    refine T_regionS ?_
    refine Run.one (ok_indexAddr rfl rfl rfl (by omega) (y := (x, y)) (hqq)) rfl rfl rfl ?_
    refine Run.one ((show OpOK _ _ _ _ _ (aggS (canP x y)) from ok_load_agg rfl rfl rfl rfl)) rfl rfl rfl ?_
    refine Run.alloc rfl rfl rfl rfl rfl fun b5 => ?_
    refine Run.store 0 rfl rfl rfl rfl rfl rfl rfl rfl rfl ?_
    refine Run.nil ?_
    refine T_region ?_
    refine Run.one (ok_move rfl rfl) rfl rfl rfl ?_
    refine Run.one (ok_fieldAddr_eq rfl rfl rfl) rfl rfl rfl ?_
    refine Run.one ((show OpOK _ _ _ _ _ (aggS (canQ x)) from ok_load_own_agg 0 rfl rfl rfl rfl rfl)) rfl rfl rfl ?_
    refine Run.one (ok_fieldAddr_eq rfl rfl rfl) rfl rfl rfl ?_
    refine Run.one ((show OpOK _ _ _ _ _ (aggS (canQ y)) from ok_load_own_agg 0 rfl rfl rfl rfl rfl)) rfl rfl rfl ?_
    refine Run.one (ok_buildSlice rfl rfl (by decide) rfl (by simp) rfl rfl) rfl rfl rfl ?_
    refine Run.callVH [_] [_] [] rfl rfl rfl rfl rfl ((digits1_spec (qs := [x, y]) (k := k) (n := acc) (by intro q hq; rcases List.mem_cons.1 hq with rfl | hq; exact hb.1; rw [List.mem_singleton.1 hq]; exact hb.2) hs).args ⟨fun I v h => sl_map (f := canQ) (l := [x, y]) h, fun _ _ h => h, trivial⟩) rfl rfl rfl ?_
    rintro s1 H1 ⟨rfl, rfl⟩
    refine Run.nil ?_
    refine T_ghost (ghost_drop (List.sublist_cons_self _ _)) ?_
    refine T_region ?_
    refine Run.one (ok_ari (z := ((g + 1 : Nat) : Int)) rfl rfl rfl (congrArg some (by omega)) (wrap_i64 (by omega) (by omega))) rfl rfl rfl ?_
    refine Run.one (ok_move rfl rfl) rfl rfl rfl ?_
    refine Run.nil ?_
    exact ⟨g + 1, max (max acc (nD x)) (nD y), ⟨by omega, by rw [hfs, ← hacc]⟩, by omega, ent_h (subG_cons rfl (subG_cons rfl (subG_cons rfl (subG_cons rfl (subG_cons rfl (trivial)))))) rfl⟩
  · have k11 := of_decide_eq_false h11
    obtain rfl : g = ps.length := by omega
    rw [List.take_length] at hacc
    refine T_exit ?_
    refine T_regionS ?_
    refine Run.one (ok_load_own 0 rfl rfl rfl rfl) rfl rfl rfl ?_
    refine Run.store 0 rfl rfl rfl rfl rfl rfl rfl rfl rfl ?_
    refine Run.nil ?_
    refine T_ret ?_
    exact ⟨_, [], .one (.own 0 inferInstance rfl rfl rfl), List.nil_sublist _, by rw [hacc], rfl⟩
end Go.Proofs
/- scene: a scene in lowest terms; the same scenes. -/
namespace Num
abbrev QP := Rat × Rat
abbrev QS := List QP × List (List QP) × List (QP × QP)
end Num
namespace Go.Proofs
open Go Go.Sv Num
variable {G : Imm}
abbrev qrowC (l : List QP) : List SV := [slS 6 pcan l]
abbrev qqueC (q : QP × QP) : List SV := pcan q.1 ++ pcan q.2
abbrev qsC (s : QS) : List SV := [slS 6 pcan s.1, slS 1 qrowC s.2.1, slS 12 qqueC s.2.2]
def pvs (l : List RP) : List QP := l.map pv
def pv2 (q : RP × RP) : QP × QP := (pv q.1, pv q.2)
def nrm (s : Sc) : QS := (pvs s.1, s.2.1.map pvs, s.2.2.map pv2)
theorem flat_qrow : ∀ l : List (List QP), (l.flatMap qrowC).length = l.length * 1
  | [] => rfl
  | x :: l => by rw [List.flatMap_cons, List.length_append, flat_qrow l, List.length_cons]; simp; omega
theorem flat_qque : ∀ l : List (QP × QP), (l.flatMap qqueC).length = l.length * 12
  | [] => rfl
  | x :: l => by rw [List.flatMap_cons, List.length_append, flat_qque l, List.length_cons]; simp; omega
theorem map_succ {α β : Type} (f : α → β) {l : List α} {k : Nat} {x : α} (h : l[k]? = some x) : (l.take (k + 1)).map f = (l.take k).map f ++ [f x] := by
  rw [List.take_add_one, h]; simp
end Go.Proofs
/- scene: the same scenes. -/
namespace Go.Proofs
open Go Go.Sv Num
variable {G : Imm}
end Go.Proofs
/- scene: a scene as a text. -/
namespace Num
open Go Go.Lib
def ptT (p : Rat × Rat) : List (List UInt8) := [txtF p.1, txtF p.2]
def rowW (w : List UInt8) (l : List (Rat × Rat)) : List (List UInt8) := w :: l.flatMap ptT
def lnT (w : List UInt8) (l : List (Rat × Rat)) : List UInt8 := join (rowW w l) [32] ++ [10]
theorem rowW_len (w : List UInt8) (l : List (Rat × Rat)) : (rowW w l).length = 2 * l.length + 1 := by
  unfold rowW
  rw [List.length_cons]
  induction l with
  | nil => rfl
  | cons p l ih => rw [List.flatMap_cons, List.length_append, List.length_cons]; simp only [ptT, List.length_cons, List.length_nil] at ih ⊢; omega
theorem lnT_len {w : List UInt8} {l : List (Rat × Rat)} (hw : w.length ≤ 8) (hp : ∀ p ∈ l, (txtF p.1).length ≤ 50000 ∧ (txtF p.2).length ≤ 50000) : (lnT w l).length ≤ 9 + l.length * 100002 := by
  have hj := join32_le (ws := rowW w l) (by simp [rowW])
  have hn : (nl (rowW w l)).length = w.length + 1 + (nl (l.flatMap ptT)).length := by unfold rowW nl; rw [List.flatMap_cons]; simp; omega
  have hl : (nl (l.flatMap ptT)).length ≤ l.length * 100002 := by
    clear hj hn
    induction l with
    | nil => simp [nl]
    | cons p l ih =>
      have h1 := hp p (by simp)
      have h2 := ih fun q hq => hp q (by simp [hq])
      unfold nl at h2 ⊢
      rw [List.flatMap_cons, List.flatMap_append, List.length_append]
      simp only [ptT, List.flatMap_cons, List.flatMap_nil, List.length_append, List.length_cons, List.length_nil] at h2 ⊢
      omega
  unfold lnT
  rw [List.length_append, List.length_singleton]
  omega
end Num
namespace Go.Proofs
open Go Go.Sv Num
variable {G : Imm}
def lnX (x : List UInt8 × List RP) : List UInt8 := lnT x.1 (pvs x.2)
def scT (s : Sc) : List UInt8 := (scL s).flatMap lnX
theorem word_le {s : Sc} {x : List UInt8 × List RP} (h : x ∈ scL s) : x.1.length ≤ 8 := by
  unfold scL at h
  rcases List.mem_cons.1 h with rfl | h
  · show wRob.length ≤ 8; decide
  · rcases List.mem_append.1 h with h | h
    · obtain ⟨l, _, rfl⟩ := List.mem_map.1 h; show wObs.length ≤ 8; decide
    · obtain ⟨l, _, rfl⟩ := List.mem_map.1 h; show wQue.length ≤ 8; decide
theorem ScOk.txt {s : Sc} {k n : Nat} (h : ScOk s k n) (hk : k ≤ 1000) {x : List UInt8 × List RP} (hx : x ∈ scL s) : ∀ p ∈ pvs x.2, (txtF p.1).length ≤ 50000 ∧ (txtF p.2).length ≤ 50000 := fun p hp => by
  obtain ⟨r, hr, rfl⟩ := List.mem_map.1 hp
  have ho := h.pt x hx r hr
  exact ⟨txt_le (isQ_lim ho.1 h.pos).bq hk, txt_le (isQ_lim ho.2 h.pos).bq hk⟩
theorem ScOk.line {s : Sc} {k n : Nat} (h : ScOk s k n) (hk : k ≤ 1000) {x : List UInt8 × List RP} (hx : x ∈ scL s) : (lnX x).length ≤ 9 + n * 100002 := by
  have h1 := lnT_len (word_le hx) (h.txt hk hx)
  have h2 := h.lrow hx
  have h3 : x.2.length * 100002 ≤ n * 100002 := Nat.mul_le_mul_right _ h2
  unfold lnX
  rw [show (pvs x.2).length = x.2.length by simp [pvs]] at h1
  exact Nat.le_trans h1 (Nat.add_le_add_left h3 9)
theorem ScOk.text {s : Sc} {k n : Nat} (h : ScOk s k n) (hk : k ≤ 1000) (j : Nat) : (((scL s).take j).flatMap lnX).length ≤ (scL s).length * 9 + (scPts s).length * 100002 := by
  refine Nat.le_trans (flat_take_le lnX (scL s) j) ?_
  unfold scPts
  have : ∀ L : List (List UInt8 × List RP), (∀ x ∈ L, x ∈ scL s) → (L.flatMap lnX).length ≤ L.length * 9 + (L.flatMap (·.2)).length * 100002 := fun L => by
    induction L with
    | nil => intro _; simp
    | cons x L ih =>
      intro hL
      have h1 := ih fun y hy => hL y (by simp [hy])
      have h2 := lnT_len (word_le (hL x (by simp))) (h.txt hk (hL x (by simp)))
      rw [show (pvs x.2).length = x.2.length by simp [pvs]] at h2
      rw [List.flatMap_cons, List.flatMap_cons, List.length_append, List.length_append, List.length_cons]
      unfold lnX at h1 ⊢
      omega
  exact this _ fun _ h => h
theorem rowW_take {w : List UInt8} {l : List RP} {g : Nat} {p : RP} (h : l[g]? = some p) : rowW w (pvs (l.take (g + 1))) = rowW w (pvs (l.take g)) ++ [txtF (pv p).1, txtF (pv p).2] := by
  unfold rowW pvs
  rw [map_succ pv h, List.flatMap_append]; rfl
theorem sprint_spec [Tab G] [Tab10 G] {s : Sc} {k n : Nat} (h : ScOk s k n) (hk : k ≤ 1000) (hn : n ≤ 1000000) : PSpec Tryz.prog G 34 [aggS (scC s)] (strS (scT s)) := by
  have hlen := h.len
  have hrw := h.row
  refine fn_spec Tryz.func34 rfl rfl rfl ?_
  refine T_regionS ?_
  refine Run.one (ok_box rfl rfl) rfl rfl rfl ?_
  refine Run.alloc rfl rfl rfl rfl rfl fun b2 => ?_
  refine Run.nil ?_
  refine T_seq ?_
  refine T_regionS ?_
  refine Run.one (ok_load_agg rfl rfl rfl rfl) rfl rfl rfl ?_
  refine Run.one (ok_call rfl rfl slines_spec) rfl rfl rfl ?_
  refine Run.nil ?_
  refine T_block ?_
  refine T_rng rfl rfl lines1_spec (fun ss h => lnC_len h) (by decide) rfl
      (fun j h i => i = (0, false) ∧ h = [⟨some b2, 9, [strS (((scL s).take j).flatMap lnX)], 0⟩])
      (fun _ _ _ => False) ⟨rfl, rfl⟩ ?_ ?_ ?_
  · rintro l1 j ss h1 i hk1 ⟨rfl, rfl⟩
    obtain ⟨⟨w, row⟩, hw, rfl⟩ := lnC_inv hk1
    have hmem := List.mem_of_getElem? hw
    have hst := flat_succ lnX hw
    have htl := h.text hk j
    have hpt := h.pt _ hmem
    have hrl := h.lrow hmem
    have hll := h.line hk hmem
    simp only at hpt hrl
    have hlx : lnX (w, row) = Lib.join (rowW w (pvs row)) [32] ++ [10] := rfl
    obtain ⟨A, hA⟩ : ∃ A, A = ((scL s).take j).flatMap lnX := ⟨_, rfl⟩
    rw [← hA] at htl hst ⊢
    refine T_regionS ?_
    refine Run.one (ok_assign rfl rfl) rfl rfl rfl ?_
    refine Run.nil ?_
    refine T_region ?_
    refine Run.one (ok_assign rfl rfl) rfl rfl rfl ?_
    refine Run.nil ?_
    refine ⟨rfl, ?_⟩
    refine T_block ?_
    refine T_regionS ?_
    refine Run.one (ok_move rfl rfl) rfl rfl rfl ?_
    refine Run.buildRow rfl rfl rfl rfl rfl rfl (by decide) rfl (.inr (by simp)) rfl (by kernel_rfl) fun b13 hb13 => ?_
    refine Run.one (ok_assign rfl rfl) rfl rfl rfl ?_
    refine Run.nil ?_
    refine T_seq ?_
    refine T_regionS ?_
    refine Run.one (ok_move rfl rfl) rfl rfl rfl ?_
    refine Run.one (ok_len rfl rfl) rfl rfl rfl ?_
    refine Run.one (ok_move rfl rfl) rfl rfl rfl ?_
    refine Run.nil ?_
    refine T_block ?_
    refine T_len 14 rfl fun la => ?_
    unfold big at la
    refine T_loop2 (fun (g : Nat) (q : Option (Nat × Nat)) => ⟨_, [(16, intS .i64 (g : Nat)), (15, intS .i64 row.length), (14, slS 6 pc row), (5, eqS (rowV q (2 * g + 1))), (2, eqS (.pointer (some ⟨b2, 0, none⟩)))], [rowE q 9 1 (2 * g + 1) ((rowW w (pvs (row.take g))).flatMap tC), ⟨some b2, 9, [strS A], 0⟩], [], (0, false)⟩) (fun g q => g ≤ row.length ∧ rowOk q (2 * g + 1)) (fun g _ => row.length - g) 0 (some (b13, 1)) ⟨Nat.zero_le _, hb13⟩ (ent_h (subG_cons rfl (subG_cons rfl (subG_cons rfl (subG_cons rfl (subG_cons rfl (trivial)))))) rfl) ?_
    rintro g q ⟨hg, hq⟩
    refine T_regionS ?_
    refine Run.one (ok_cmp rfl rfl rfl rfl) rfl rfl rfl ?_
    refine Run.nil ?_
    refine T_seq ?_
    refine T_cond rfl rfl (fun h17 => ?_) (fun h17 => ?_)
    · have k17 := of_decide_eq_true h17
      obtain ⟨⟨⟨b, l, d⟩, ⟨c, m, e⟩⟩, hp⟩ : ∃ p, row[g]? = some p := ⟨_, List.getElem?_eq_getElem (by omega)⟩
      have ho := hpt _ (List.mem_of_getElem? hp)
      have i1 : IsQ b l d (qv (b, l, d)) k := isQ_lim ho.1 h.pos
      have i2 : IsQ c m e (qv (c, m, e)) k := isQ_lim ho.2 h.pos
      have ib1 := i1.bq
      have ib2 := i2.bq
      have hrt := rowW_take (w := w) hp
      refine T_skip ?_
      refine T_seq ?_
      refine T_block ?_
      refine T_regionS ?_
      refine Run.one (ok_indexAddr rfl rfl rfl (by omega) (y := ((b, l, d), (c, m, e))) (hp)) rfl rfl rfl ?_
      refine Run.one ((show OpOK _ _ _ _ _ (aggS (pc ((b, l, d), (c, m, e)))) from ok_load_agg rfl rfl rfl rfl)) rfl rfl rfl ?_
      refine Run.alloc rfl rfl rfl rfl rfl fun b7 => ?_
      refine Run.store 0 rfl rfl rfl rfl rfl rfl rfl rfl rfl ?_
      refine Run.nil ?_
      refine T_drawM 9 [8] _ (by kernel_rfl) (.cons_cons _ (.cons _ (.cons_cons _ .slnil))) ?_
      refine RunE.one (ok_move rfl rfl) rfl rfl rfl (by kernel_rfl) ?_
      refine RunE.one (ok_fieldAddr_eq rfl rfl rfl) rfl rfl rfl (by kernel_rfl) ?_
      refine RunE.one ((show OpOK _ _ _ _ _ (aggS [boolS b, natS l, natS d]) from ok_load_own_agg 0 rfl rfl rfl rfl rfl)) rfl rfl rfl (by kernel_rfl) ?_
      refine RunE.one (ok_call rfl rfl (ltext_spec (q := qv (b, l, d)) (k := k) hk)) rfl rfl rfl (by kernel_rfl) ?_
      refine RunE.one (ok_fieldAddr_eq rfl rfl rfl) rfl rfl rfl (by kernel_rfl) ?_
      refine RunE.one ((show OpOK _ _ _ _ _ (aggS [boolS c, natS m, natS e]) from ok_load_own_agg 0 rfl rfl rfl rfl rfl)) rfl rfl rfl (by kernel_rfl) ?_
      refine RunE.one (ok_call rfl rfl (ltext_spec (q := qv (c, m, e)) (k := k) hk)) rfl rfl rfl (by kernel_rfl) ?_
      refine RunE.one (ok_buildSlice rfl rfl (by decide) rfl (by simp) rfl rfl) rfl rfl rfl (by kernel_rfl) ?_
      refine RunE.nil ⟨_, rfl, ?_⟩
      refine EffM.append 1 rfl rfl rfl rfl rfl rfl rfl hq (by rw [flat_tC, rowW_len]; unfold pvs; rw [List.length_map, List.length_take]; omega) (fun z hz => by rcases List.mem_cons.1 hz with rfl | hz; rfl; rw [List.mem_singleton.1 hz]; rfl) (by unfold big; simp; omega) (by unfold big; simp; omega) fun q28 hq28 => ⟨(.cons_cons _ (.cons _ (.cons_cons _ .slnil))), ?_⟩
      refine RunE.nil ?_
      refine Run.one (ok_assign rfl rfl) rfl rfl rfl ?_
      refine Run.nil ?_
      refine T_ghost (ghost_drop (List.sublist_cons_self _ _)) ?_
      refine T_region ?_
      refine Run.one (ok_ari (z := ((g + 1 : Nat) : Int)) rfl rfl rfl (congrArg some (by omega)) (wrap_i64 (by omega) (by omega))) rfl rfl rfl ?_
      refine Run.one (ok_move rfl rfl) rfl rfl rfl ?_
      refine Run.nil ?_
      exact ⟨g + 1, q28, ⟨by omega, hq28⟩, by omega, ent_h (subG_cons rfl (subG_cons rfl (subG_cons rfl (subG_cons rfl (subG_cons rfl (trivial)))))) (by rw [hrt, List.flatMap_append]; rfl)⟩
    · have k17 := of_decide_eq_false h17
      obtain rfl : g = row.length := by omega
      rw [List.take_length]
      refine T_exit ?_
      refine T_ghost (ghost_sl 0 5 rfl rfl hq (l := rowW w (pvs row)) (f := tC) (by rw [rowW_len]; simp [pvs]) rfl (fun _ _ => rfl) (by unfold big; omega)) ?_
      refine T_draw 5 (by kernel_rfl) ?_
      refine Run.one (ok_load_own 0 rfl rfl rfl rfl) rfl rfl rfl ?_
      refine Run.one (ok_move rfl rfl) rfl rfl rfl ?_
      refine Run.one (ok_call rfl rfl (ljoin_spec (by rw [hlx, List.length_append] at hll; simp only [List.length_singleton] at hll; omega))) rfl rfl rfl ?_
      refine Run.one ((ok_add_str rfl rfl rfl (by rw [hlx, List.length_append] at hll; simp only [List.length_singleton] at hll ⊢; omega)).sub (str_eq hlx.symm)) rfl rfl rfl ?_
      refine Run.one (ok_add_str rfl rfl rfl (by omega)) rfl rfl rfl ?_
      refine Run.nil ?_
      refine Run.store 0 rfl rfl rfl rfl rfl rfl rfl rfl rfl ?_
      refine Run.nil ?_
      exact ⟨rfl, by rw [hst]; rfl⟩
  · rintro h1 i D ⟨rfl, rfl⟩
    rw [List.length_map lnC, List.take_length]
    refine T_regionS ?_
    refine Run.one (ok_load_own 0 rfl rfl rfl rfl) rfl rfl rfl ?_
    refine Run.store 0 rfl rfl rfl rfl rfl rfl rfl rfl rfl ?_
    refine Run.nil ?_
    refine T_ret ?_
    exact ⟨_, [], .one (.own 0 inferInstance rfl rfl rfl), List.nil_sublist _, rfl, rfl⟩
  · intro h i D e c hc hInv; exact hInv.elim
end Go.Proofs
