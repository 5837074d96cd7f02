/- straitlaw13: how great polygons are, what the document says of a spike and of a flat corner; the law SimpleTwice, on the facts. -/
import Derived.Test.YtofplgefmjojjaaGreatDoorSgg
import Derived.Test.YtofplgefmjojjaaGreatDoorSn2
namespace Num
open Go Go.Proofs
theorem put_at {L : List V2} {K : Nat} {t : Rat} (hK : K < L.length) (hn : 3 ≤ L.length) (h0 : 0 < t) (h1 : t < 1) :
    simB (L.take (K + 1) ++ [atP (cor L K) (cor L (K + 1)) t] ++ L.drop (K + 1)) = simB L ∧ areaL (L.take (K + 1) ++ [atP (cor L K) (cor L (K + 1)) t] ++ L.drop (K + 1)) = areaL L ∧
    (flatI (turnL (L.take (K + 1) ++ [atP (cor L K) (cor L (K + 1)) t] ++ L.drop (K + 1)))).length = (flatI (turnL L)).length + 1 ∧ cvxB (L.take (K + 1) ++ [atP (cor L K) (cor L (K + 1)) t] ++ L.drop (K + 1)) = false := by
  obtain ⟨P, hP⟩ : ∃ P, P = atP (cor L K) (cor L (K + 1)) t := ⟨_, rfl⟩
  rw [← hP]
  obtain ⟨m, hm⟩ : ∃ m, m = L.drop (K + 1) ++ L.take (K + 1) := ⟨_, rfl⟩
  have hml : m.length = L.length := by rw [hm]; exact rot_len (by omega)
  have htl : (L.take (K + 1)).length = K + 1 := by rw [List.length_take]; omega
  obtain ⟨M, hM⟩ : ∃ M, M = L.take (K + 1) ++ [P] ++ L.drop (K + 1) := ⟨_, rfl⟩
  have hMl : M.length = L.length + 1 := by rw [hM, List.length_append, List.length_append, htl, List.length_drop, List.length_singleton]; omega
  have hpl : (L.take (K + 1) ++ [P]).length = K + 2 := by rw [List.length_append, htl]; rfl
  have hrot : M.drop (K + 2) ++ M.take (K + 2) = m ++ [P] := by
    rw [hM, hm, List.drop_left' hpl, List.take_left' hpl, ← List.append_assoc]
  have c1 : cor m (m.length - 1) = cor L K := by
    rw [hml, hm, cor_rot (by omega), show L.length - 1 + (K + 1) = K + L.length by omega]
    have hp := cor_per L
    rw [← hp (K + L.length), Nat.add_mod_right, hp]
  have c2 : cor m 0 = cor L (K + 1) := by rw [hm, cor_rot (by omega), Nat.zero_add]
  have hPm : P = atP (cor m (m.length - 1)) (cor m 0) t := by rw [c1, c2, hP]
  rw [← hM]
  refine ⟨?_, ?_, ?_, ?_⟩
  · rw [← simB_rot (l := M) (k := K + 2) (by omega), hrot, hPm, simB_put (by omega) h0 h1, hm, simB_rot (by omega)]
  · rw [← area_rot (l := M) (k := K + 2) (by omega), hrot, hPm, area_put (by omega), hm, area_rot (by omega)]
  · rw [← flat_rot (l := M) (k := K + 2) (by omega), hrot, hPm, flat_put (by omega) h0 h1, hm, flat_rot (by omega)]
  · rw [← cvx_rot (l := M) (k := K + 2) (by omega), hrot, hPm]; exact cvx_put (by omega) h0 h1
theorem min_sum {α : Type} {f : α → Nat} : ∀ {l : List α}, (l.map fun p => min (f p) 1000).sum ≤ 80 → (∀ p ∈ l, f p ≤ 80) ∧ (l.map f).sum = (l.map fun p => min (f p) 1000).sum
  | [], _ => ⟨fun p hp => by simp at hp, rfl⟩
  | x :: l, h => by
    simp only [List.map_cons, List.sum_cons] at h ⊢
    obtain ⟨h1, h2⟩ := min_sum (f := f) (l := l) (by omega)
    refine ⟨fun p hp => ?_, by rw [h2]; omega⟩
    rcases List.mem_cons.1 hp with rfl | hp
    · omega
    · exact h1 p hp
theorem nsum_app (a b : List Nat) : (a ++ b).sum = a.sum + b.sum := List.sum_append
theorem nsum_rot (l : List Nat) (k : Nat) : (l.drop k ++ l.take k).sum = l.sum := by
  have h := nsum_app (l.take k) (l.drop k)
  rw [List.take_append_drop] at h
  rw [nsum_app, h]; omega
end Num
namespace Go.Sv
open Go Go.RowKit
theorem ok_rem0 {P : Program} {G : Imm} {H : HL} {o : Oper} {g : List (Nat × SV)} {t u : TypeId} {x y : Operand} {k : IntKind} {m n : Int} (hop : o.op = .binOp .rem t x y u) (hx : opE g x = some (intS k m)) (hy : opE g y = some (intS k n)) (hn : n ≠ 0) : OpOK P G H o g (intS k (m.tmod n)) :=
  ok_pure (by simp [hop]) fun I W a _ _ hr => by
    have h1 : a.eval x = .int k m := hr.get (by simp [hop, Op.operands]) hx
    have h2 : a.eval y = .int k n := hr.get (by simp [hop, Op.operands]) hy
    refine ⟨.int k (m.tmod n), ?_, rfl⟩
    simp [execOp, hop, h1, h2, eqGuard, binOp, Op.intDiv, hn]
end Go.Sv
namespace Go.Proofs
open Go Go.Sv Num
variable {G : Imm}
theorem ring0 {z : Int} {n : Nat} (h : 0 < n) : ∃ K : Nat, K < n ∧ (z.tmod n + n) % (n : Int) = (K : Int) ∧ -(n : Int) < z.tmod n ∧ z.tmod n < n := by
  have h1 := Int.lt_tmod_of_pos z (show (0 : Int) < n by omega)
  have h2 := Int.tmod_lt_of_pos z (show (0 : Int) < n by omega)
  have h3 := Int.emod_nonneg (z.tmod n + n) (show (n : Int) ≠ 0 by omega)
  have h4 := Int.emod_lt_of_pos (z.tmod n + n) (show (0 : Int) < n by omega)
  exact ⟨((z.tmod n + n) % (n : Int)).toNat, by omega, (Int.toNat_of_nonneg h3).symm, by omega, h2⟩
abbrev LimR (p : RawP) : Prop := (Lim p.1.2.1 ∧ Lim p.1.2.2) ∧ Lim p.2.2.1 ∧ Lim p.2.2.2
theorem gr13 {xs : List RawP} (hx : ∀ p ∈ xs, LimR p) (h : ¬ (20 < xs.length ∨ 80 < gs tsz xs xs.length)) : xs.length ≤ 20 ∧ (∀ p ∈ xs, PtOk 80 p) ∧ (∀ p ∈ xs, tsz p ≤ 80) ∧ (xs.map tsz).sum ≤ 80 := by
  have hg : gs tsz xs xs.length ≤ 80 := by omega
  unfold gs at hg
  rw [List.take_length] at hg
  obtain ⟨h1, h2⟩ := min_sum hg
  refine ⟨by omega, fun p hp => ?_, h1, by omega⟩
  have h3 := h1 p hp
  have h4 := hx p hp
  unfold tsz at h3
  exact ⟨⟨h4.1.1, h4.1.2, by omega, by omega⟩, h4.2.1, h4.2.2, by omega, by omega⟩
theorem isQ_sz {b : Bool} {l d : List Nat} (h : Lim l) (h' : Lim d) : IsQ b l d (qv (b, l, d)) (l.length + d.length + 1) := isQ_lim ⟨h, h', by omega, by omega⟩ (by omega)
theorem bq_x2s {p q : RawP} (hp : LimR p) (hq : LimR q) : Bq (x2 (pv p) (pv q)) (tsz p + tsz q + 5) := by
  have i1 := (isQ_sz (b := p.1.1) hp.1.1 hp.1.2).bq
  have i2 := (isQ_sz (b := p.2.1) hp.2.1 hp.2.2).bq
  have i3 := (isQ_sz (b := q.1.1) hq.1.1 hq.1.2).bq
  have i4 := (isQ_sz (b := q.2.1) hq.2.1 hq.2.2).bq
  have i5 : Bq ((pv p).1 * (pv q).2 - (pv p).2 * (pv q).1) _ := bq_sub (hp := bq_mul (hp := i1) (hq := i4)) (hq := bq_mul (hp := i2) (hq := i3))
  exact bq_le i5 (by unfold tsz; omega)
def szA (xs : List RawP) (g : Nat) : Nat := (perL g fun i => tsz (ra xs i) + tsz (rb xs i) + 6).sum
theorem bq_areaS {xs : List RawP} (hl : ∀ p ∈ xs, LimR p) : ∀ g, g ≤ xs.length → Bq (areaF xs g) (szA xs g + 1)
  | 0, _ => bq_zero
  | g + 1, hg => by
    have h1 := bq_areaS hl g (by omega)
    have h2 : Bq _ (tsz (ra xs g) + tsz (rb xs g) + 5) := bq_x2s (hl _ (getD_mem (show g < xs.length by omega))) (hl _ (getD_mem (i := (g + 1) % xs.length) (Nat.mod_lt _ (by omega))))
    have h3 : szA xs (g + 1) = szA xs g + (tsz (ra xs g) + tsz (rb xs g) + 6) := by unfold szA; rw [perL_succ, nsum_app]; simp
    rw [areaF_succ, h3]
    exact bq_le (bq_add (hp := h1) (hq := h2)) (by omega)
theorem sum3 (f g : Nat → Nat) (c : Nat) : ∀ n, (perL n fun i => f i + g i + c).sum = (perL n f).sum + (perL n g).sum + c * n
  | 0 => rfl
  | n + 1 => by rw [perL_succ, perL_succ, perL_succ, nsum_app, nsum_app, nsum_app, sum3 f g c n, Nat.mul_succ]; simp; omega
theorem szA_all (xs : List RawP) : szA xs xs.length = 2 * (xs.map tsz).sum + 6 * xs.length := by
  unfold szA
  rw [sum3]
  have h1 : (perL xs.length fun i => tsz (ra xs i)) = xs.map tsz := List.ext_getElem (by rw [perL_length, List.length_map]) fun i h1 h2 => by
    rw [perL_length] at h1
    rw [perL_get, List.getElem_map]; congr 1; simp [h1]
  have h2 : (perL xs.length fun i => tsz (rb xs i)).sum = (xs.map tsz).sum := by
    rcases Nat.eq_zero_or_pos xs.length with h0 | h0
    · have : xs = [] := List.eq_nil_of_length_eq_zero h0
      subst this; rfl
    · have h3 := perL_shift (n := xs.length) (k := 1) (h := fun i => tsz (xs.getD (i % xs.length) default)) (fun i => by simp only [Nat.mod_mod]) h0
      have h4 : (perL xs.length fun i => tsz (xs.getD (i % xs.length) default)) = xs.map tsz := by rw [← h1]; exact perL_congr fun i hi => by rw [Nat.mod_eq_of_lt hi]
      show (perL xs.length fun i => tsz (xs.getD ((i + 1) % xs.length) default)).sum = _
      rw [h3, nsum_rot, h4]
  rw [h1, h2]; omega
theorem bq_area2 {xs : List RawP} (hl : ∀ p ∈ xs, LimR p) : Bq (areaL (pvs2 xs)) (2 * (xs.map tsz).sum + 6 * xs.length + 1) := by
  rw [← areaF_all, ← szA_all]; exact bq_areaS hl _ (Nat.le_refl _)
theorem flat_pc : ∀ l : List RawP, (l.flatMap pc).length = l.length * 6
  | [] => rfl
  | x :: l => by rw [List.flatMap_cons, List.length_append, flat_pc l]; show 6 + l.length * 6 = (l.length + 1) * 6; omega
def ofL (ns : List Int) (g : Nat) : List V2 := perL g fun i => ((ns.getD (2 * i) 0 : Rat), (ns.getD (2 * i + 1) 0 : Rat))
theorem ofL_succ (ns : List Int) (g : Nat) : ofL ns (g + 1) = ofL ns g ++ [((ns.getD (2 * g) 0 : Rat), (ns.getD (2 * g + 1) 0 : Rat))] := perL_succ ..
theorem ofL_len (ns : List Int) (g : Nat) : (ofL ns g).length = g := perL_length ..
abbrev W1 : List V2 := [(0, 0), (1, 0), (2, 0), (0, 2)]
abbrev W2 : List V2 := [(0, 0), (2, 0), (1, 0), (1, 1)]
abbrev W3 : List V2 := [(0, 0), (2, 0), (0, 2)]
abbrev W4 : List V2 := [(0, 0), (0, 2), (2, 0)]
theorem ok_rep {l : List V2} (h : ∀ p ∈ l, Bq p.1 1 ∧ Bq p.2 1) : ∀ p ∈ l.map rep, PtOk 1 p := fun p hp => by
  obtain ⟨v, hv, rfl⟩ := List.mem_map.1 hp
  exact ptOk_rep (h v hv).1 (h v hv).2
theorem w_small : ∀ p ∈ W1 ++ W2 ++ W3 ++ W4, (p.1.num.natAbs < 4294967296 ∧ p.1.den < 4294967296) ∧ p.2.num.natAbs < 4294967296 ∧ p.2.den < 4294967296 := by decide +kernel
theorem w_ok : ∀ p ∈ (W1 ++ W2 ++ W3 ++ W4).map rep, PtOk 1 p := ok_rep fun p hp => by
  have h := w_small p hp
  exact ⟨⟨by rw [Nat.pow_one]; exact h.1.1, by rw [Nat.pow_one]; exact h.1.2⟩, ⟨by rw [Nat.pow_one]; exact h.2.1, by rw [Nat.pow_one]; exact h.2.2⟩⟩
theorem pvs_rep (l : List V2) : pvs2 (l.map rep) = l := map_rep l
theorem wk_cap : 100000 * 1 + 100000 ≤ cap := by decide
section
theorem w1_sub : ∀ p ∈ W1.map rep, PtOk 1 p := fun p hp => w_ok p (by simp only [List.map_append, List.mem_append]; exact .inl (.inl (.inl hp)))
theorem w2_sub : ∀ p ∈ W2.map rep, PtOk 1 p := fun p hp => w_ok p (by simp only [List.map_append, List.mem_append]; exact .inl (.inl (.inr hp)))
theorem w3_sub : ∀ p ∈ W3.map rep, PtOk 1 p := fun p hp => w_ok p (by simp only [List.map_append, List.mem_append]; exact .inl (.inr hp))
theorem w4_sub : ∀ p ∈ W4.map rep, PtOk 1 p := fun p hp => w_ok p (by simp only [List.map_append, List.mem_append]; exact .inr hp)
end
theorem toW {f : FuncId} {l : List V2} {s : SV} (h : PSpec Tryz.prog G f [slS 6 pc (l.map rep)] s) : PSpec Tryz.prog G f [slS 6 pcan l] s := h.args ⟨fun _ _ h => sl_rep h, trivial⟩
theorem w_sim {l : List V2} {r : Bool} [Tab G] (hl : ∀ p ∈ l.map rep, PtOk 1 p) (h : simB l = r) : PSpec Tryz.prog G 13 [slS 6 pcan l] (boolS r) := by
  have := simple_spec (G := G) (by decide) hl wk_cap
  rw [pvs_rep, h] at this; exact toW this
theorem w_cvx {l : List V2} {r : Bool} [Tab G] (hl : ∀ p ∈ l.map rep, PtOk 1 p) (hc : l.length ≤ cap) (h : cvxB l = r) : PSpec Tryz.prog G 16 [slS 6 pcan l] (boolS r) := by
  have := convex_spec (G := G) (by decide) hl wk_cap (by rw [List.length_map]; exact hc)
  rw [pvs_rep, h] at this; exact toW this
theorem w_flat {l : List V2} {r : List Int} [Tab G] (hl : ∀ p ∈ l.map rep, PtOk 1 p) (hc : l.length ≤ cap) (h : flatI (turnL l) = r) : PSpec Tryz.prog G 20 [slS 6 pcan l] (slS 1 i64C r) := by
  have := flat_spec (G := G) (by decide) hl (by decide) (by rw [List.length_map]; exact hc)
  rw [turnsV_eq, pvs_rep, h] at this; exact toW this
theorem w_area {l : List V2} {r : Rat} [Tab G] (hl : ∀ p ∈ l.map rep, PtOk 1 p) (hc : l.length ≤ 4) (h : areaL l = r) : PSpec Tryz.prog G 14 [slS 6 pcan l] (aggS (canQ r)) := by
  have := area_spec (G := G) (by decide) hl (by rw [List.length_map]; unfold cap; omega)
  rw [pvs_rep, h] at this; exact toW this
theorem w_way {l : List V2} {r : Int} [Tab G] (hl : ∀ p ∈ l.map rep, PtOk 1 p) (hc : l.length ≤ 4) (h : tri (areaL l) 0 = r) : PSpec Tryz.prog G 19 [slS 6 pcan l] (intS .i64 r) := by
  have := way_spec (G := G) (by decide) hl (by rw [List.length_map]; unfold cap; omega)
  rw [pvs_rep, h] at this; exact toW this
abbrev N1 : List Int := [0, 0, 1, 0, 2, 0, 0, 2]
abbrev N2 : List Int := [0, 0, 2, 0, 1, 0, 1, 1]
abbrev N3 : List Int := [0, 0, 2, 0, 0, 2]
abbrev N4 : List Int := [0, 0, 0, 2, 2, 0]
theorem great13_spec {xs : List RawP} : PSpec Tryz.prog G 11 [slS 6 pc xs] (boolS (decide (20 < xs.length ∨ 80 < gs tsz xs xs.length))) := by
  refine fn_spec Tryz.func11 rfl rfl rfl ?_
  refine T_regionS ?_
  refine Run.one (ok_assign rfl rfl) rfl rfl rfl ?_
  refine Run.nil ?_
  refine T_regionS ?_
  refine Run.one (ok_assign rfl rfl) rfl rfl rfl ?_
  refine Run.nil ?_
  refine T_seq ?_
  refine T_regionS ?_
  refine Run.one (ok_assign rfl rfl) rfl rfl rfl ?_
  refine Run.nil ?_
  refine T_block ?_
  refine T_len 0 rfl fun ha => T_cells 0 rfl fun hc => ?_
  unfold big at ha
  refine T_loop (γ := Nat) (fun i => ⟨_, [(4, intS .i64 (i : Nat)), (3, intS .i64 (gs tsz xs i : Nat)), (0, slS 6 pc xs)], [], [], (0, false)⟩) (fun i => i ≤ xs.length ∧ i ≤ 21) (fun i => xs.length - i) 0 ⟨Nat.zero_le _, by decide⟩ (ent_g (subG_cons rfl (subG_cons rfl (subG_cons rfl (trivial))))) ?_
  rintro i ⟨hi, hi2⟩
  have hgl := gs_le tsz xs i
  refine T_seq ?_
  refine T_regionS ?_
  iterate 2 refine Run.one (ok_move rfl rfl) rfl rfl rfl ?_
  refine Run.one (ok_len rfl rfl) rfl rfl rfl ?_
  refine Run.oneB (ok_cmp rfl rfl rfl rfl) rfl rfl rfl (fun h3_3 => ?_) (fun h3_3 => ?_)
  · have k3_3 := of_decide_eq_true h3_3
    refine Run.one (ok_move rfl rfl) rfl rfl rfl ?_
    refine Run.one (ok_move rfl rfl) (gB rfl rfl rfl rfl) rfl rfl ?_
    refine Run.one (ok_cmp rfl rfl rfl rfl) (gB rfl rfl rfl rfl) rfl rfl ?_
    refine Run.one (ok_pick rfl rfl rfl) rfl rfl rfl ?_
    refine Run.nil ?_
    refine T_cond rfl rfl (fun h12 => ?_) (fun h12 => ?_)
    · have k12 := of_decide_eq_true h12
      refine T_skip ?_
      refine T_seq ?_
      refine T_block ?_
      refine T_draw 37 (by kernel_rfl) ?_
      obtain ⟨⟨⟨b, l, d⟩, ⟨c, m, e⟩⟩, hp⟩ : ∃ p, xs[i]? = some p := ⟨_, List.getElem?_eq_getElem (by omega)⟩
      have hgs := gs_succ (sz := tsz) hp
      obtain ⟨I0, hcc⟩ := hc _ (List.mem_of_getElem? hp)
      have hbl : l.length ≤ big := nat_big (hcc 1 _ rfl)
      have hbd : d.length ≤ big := nat_big (hcc 2 _ rfl)
      have hbm : m.length ≤ big := nat_big (hcc 4 _ rfl)
      have hbe : e.length ≤ big := nat_big (hcc 5 _ rfl)
      unfold big at hbl hbd hbm hbe
      simp only [tsz] at hgs
      iterate 3 refine Run.one (ok_move rfl rfl) rfl rfl rfl ?_
      refine Run.one (ok_indexAddr rfl rfl rfl (by omega) (y := ((b, l, d), (c, m, e))) (hp)) rfl rfl rfl ?_
      iterate 3 refine Run.one (ok_fieldAddr rfl rfl rfl) rfl rfl rfl ?_
      refine Run.one (ok_load rfl rfl) rfl rfl rfl ?_
      refine Run.one ((ok_len rfl rfl).sub (int_eq (n := ((l.length : Nat) : Int)) rfl)) rfl rfl rfl ?_
      iterate 2 refine Run.one (ok_move rfl rfl) rfl rfl rfl ?_
      refine Run.one (ok_indexAddr rfl rfl rfl (by omega) (y := ((b, l, d), (c, m, e))) (hp)) rfl rfl rfl ?_
      iterate 2 refine Run.one (ok_fieldAddr rfl rfl rfl) rfl rfl rfl ?_
      refine Run.one (ok_load rfl rfl) rfl rfl rfl ?_
      refine Run.one ((ok_len rfl rfl).sub (int_eq (n := ((d.length : Nat) : Int)) rfl)) rfl rfl rfl ?_
      refine Run.one (ok_ari (z := ((l.length + d.length : Nat) : Int)) rfl rfl rfl (congrArg some (by omega)) (wrap_i64 (by omega) (by omega))) rfl rfl rfl ?_
      iterate 2 refine Run.one (ok_move rfl rfl) rfl rfl rfl ?_
      refine Run.one (ok_indexAddr rfl rfl rfl (by omega) (y := ((b, l, d), (c, m, e))) (hp)) rfl rfl rfl ?_
      iterate 3 refine Run.one (ok_fieldAddr rfl rfl rfl) rfl rfl rfl ?_
      refine Run.one (ok_load rfl rfl) rfl rfl rfl ?_
      refine Run.one ((ok_len rfl rfl).sub (int_eq (n := ((m.length : Nat) : Int)) rfl)) rfl rfl rfl ?_
      refine Run.one (ok_ari (z := ((l.length + d.length + m.length : Nat) : Int)) rfl rfl rfl (congrArg some (by omega)) (wrap_i64 (by omega) (by omega))) rfl rfl rfl ?_
      iterate 2 refine Run.one (ok_move rfl rfl) rfl rfl rfl ?_
      refine Run.one (ok_indexAddr rfl rfl rfl (by omega) (y := ((b, l, d), (c, m, e))) (hp)) rfl rfl rfl ?_
      iterate 2 refine Run.one (ok_fieldAddr rfl rfl rfl) rfl rfl rfl ?_
      refine Run.one (ok_load rfl rfl) rfl rfl rfl ?_
      refine Run.one ((ok_len rfl rfl).sub (int_eq (n := ((e.length : Nat) : Int)) rfl)) rfl rfl rfl ?_
      refine Run.one (ok_ari (z := ((l.length + d.length + m.length + e.length : Nat) : Int)) rfl rfl rfl (congrArg some (by omega)) (wrap_i64 (by omega) (by omega))) rfl rfl rfl ?_
      refine Run.one (ok_min rfl rfl rfl) rfl rfl rfl ?_
      refine Run.one (ok_ari (z := ((gs tsz xs (i + 1) : Nat) : Int)) rfl rfl rfl (congrArg some (by omega)) (wrap_i64 (by omega) (by omega))) rfl rfl rfl ?_
      refine Run.one (ok_assign rfl rfl) rfl rfl rfl ?_
      iterate 2 refine Run.nil ?_
      refine T_region ?_
      refine Run.one (ok_move rfl rfl) rfl rfl rfl ?_
      refine Run.one (ok_ari (z := ((i + 1 : Nat) : Int)) rfl rfl rfl (congrArg some (by omega)) (wrap_i64 (by omega) (by omega))) rfl rfl rfl ?_
      refine Run.one (ok_assign rfl rfl) rfl rfl rfl ?_
      refine Run.nil ?_
      exact ⟨i + 1, ⟨by omega, by omega⟩, by omega, ent_g (subG_cons rfl (subG_cons rfl (subG_cons rfl (trivial))))⟩
    · have k12 := of_decide_eq_false h12
      refine T_exit ?_
      refine T_regionS ?_
      refine Run.one (ok_move rfl rfl) rfl rfl rfl ?_
      refine Run.one (ok_len rfl rfl) rfl rfl rfl ?_
      refine Run.one ((ok_cmp rfl rfl rfl rfl).sub (bool_eq (c := true) (decide_eq_true (by omega)))) rfl rfl rfl ?_
      refine Run.one (ok_move rfl rfl) rfl rfl rfl ?_
      iterate 2 refine Run.no (gB rfl rfl rfl rfl) rfl rfl ?_
      refine Run.one (ok_pick rfl rfl rfl) rfl rfl rfl ?_
      refine Run.one (ok_assign rfl rfl) rfl rfl rfl ?_
      refine Run.nil ?_
      refine T_ret ?_
      exact ⟨_, [], .one (.tmp rfl), List.nil_sublist _, congrArg boolS (decide_eq_true (.inl (by omega))).symm, rfl⟩
  · have k3_3 := of_decide_eq_false h3_3
    refine Run.one (ok_move rfl rfl) rfl rfl rfl ?_
    iterate 2 refine Run.no (gB rfl rfl rfl rfl) rfl rfl ?_
    refine Run.one (ok_pick rfl rfl rfl) rfl rfl rfl ?_
    refine Run.nil ?_
    refine T_condF rfl rfl ?_
    refine T_exit ?_
    refine T_regionS ?_
    refine Run.one (ok_move rfl rfl) rfl rfl rfl ?_
    refine Run.one (ok_len rfl rfl) rfl rfl rfl ?_
    refine Run.oneB (ok_cmp rfl rfl rfl rfl) rfl rfl rfl (fun h6_2 => ?_) (fun h6_2 => ?_)
    · have k6_2 := of_decide_eq_true h6_2
      refine Run.one (ok_move rfl rfl) rfl rfl rfl ?_
      iterate 2 refine Run.no (gB rfl rfl rfl rfl) rfl rfl ?_
      refine Run.one (ok_pick rfl rfl rfl) rfl rfl rfl ?_
      refine Run.one (ok_assign rfl rfl) rfl rfl rfl ?_
      refine Run.nil ?_
      refine T_ret ?_
      exact ⟨_, [], .one (.tmp rfl), List.nil_sublist _, congrArg boolS (decide_eq_true (.inl (by omega))).symm, rfl⟩
    · have k6_2 := of_decide_eq_false h6_2
      refine Run.one (ok_move rfl rfl) rfl rfl rfl ?_
      refine Run.one (ok_move rfl rfl) (gB rfl rfl rfl rfl) rfl rfl ?_
      refine Run.one ((ok_cmp rfl rfl rfl rfl).sub (bool_eq (c := decide (20 < xs.length ∨ 80 < gs tsz xs xs.length)) (by rw [show xs.length = i by omega]; exact decide_eq_decide.2 (by omega)))) (gB rfl rfl rfl rfl) rfl rfl ?_
      refine Run.one (ok_pick rfl rfl rfl) rfl rfl rfl ?_
      refine Run.one (ok_assign rfl rfl) rfl rfl rfl ?_
      refine Run.nil ?_
      refine T_ret ?_
      exact ⟨_, [], .one (.tmp rfl), List.nil_sublist _, rfl, rfl⟩
theorem of13_spec {ns : List Int} (hn : ∀ n ∈ ns, -100 ≤ n ∧ n ≤ 100) (hl : ns.length ≤ 20) : PSpec Tryz.prog G 47 [slS 1 i64C ns] (slS 6 pcan (ofL ns (ns.length / 2))) := by
  refine fn_spec Tryz.func47 rfl rfl rfl ?_
  refine T_regionS ?_
  refine Run.one (ok_assign rfl rfl) rfl rfl rfl ?_
  refine Run.nil ?_
  refine T_regionS ?_
  refine Run.one (ok_assign rfl rfl) rfl rfl rfl ?_
  refine Run.nil ?_
  refine T_seq ?_
  refine T_regionS ?_
  refine Run.one (ok_assign rfl rfl) rfl rfl rfl ?_
  refine Run.nil ?_
  refine T_block ?_
  refine T_ghost (ghost_row 30 6) ?_
  refine T_loop2 (fun (g : Nat) (q : Option (Nat × Nat)) => ⟨26, [(4, intS .i64 (2 * g : Nat)), (3, eqS (rowV q (ofL ns g).length)), (0, slS 1 i64C ns)], [rowE q 30 6 (ofL ns g).length ((ofL ns g).flatMap pcan)], [], (0, false)⟩) (fun g q => 2 * g ≤ ns.length ∧ rowOk q (ofL ns g).length) (fun g _ => ns.length - 2 * g) 0 none ⟨Nat.zero_le _, rfl⟩ (ent_h (subG_cons rfl (subG_cons rfl (subG_cons rfl (trivial)))) rfl) ?_
  rintro g q ⟨hg, hq⟩
  rw [ofL_len] at hq ⊢
  refine T_seq ?_
  refine T_regionS ?_
  refine Run.one (ok_move rfl rfl) rfl rfl rfl ?_
  refine Run.one (ok_ari (z := ((2 * g + 1 : Nat) : Int)) rfl rfl rfl (congrArg some (by omega)) (wrap_i64 (by omega) (by omega))) rfl rfl rfl ?_
  refine Run.one (ok_move rfl rfl) rfl rfl rfl ?_
  refine Run.one (ok_len rfl rfl) rfl rfl rfl ?_
  refine Run.one (ok_cmp rfl rfl rfl rfl) rfl rfl rfl ?_
  refine Run.nil ?_
  refine T_cond rfl rfl (fun h9 => ?_) (fun h9 => ?_)
  · have k9 := of_decide_eq_true h9
    have hg1 : 2 * g + 1 < ns.length := by omega
    have e1 : ns[2 * g]? = some (ns.getD (2 * g) 0) := by simp [show 2 * g < ns.length by omega]
    have e2 : ns[2 * g + 1]? = some (ns.getD (2 * g + 1) 0) := by simp [hg1]
    have r1 := hn _ (List.mem_of_getElem? e1)
    have r2 := hn _ (List.mem_of_getElem? e2)
    refine T_skip ?_
    refine T_seq ?_
    refine T_block ?_
    refine T_drawM 13 [12] _ (by kernel_rfl) (.cons _ .slnil) ?_
    iterate 3 refine RunE.one (ok_move rfl rfl) rfl rfl rfl (by kernel_rfl) ?_
    refine RunE.one (ok_indexAddr rfl rfl rfl (by omega) (y := (ns.getD (2 * g) 0)) (e1)) rfl rfl rfl (by kernel_rfl) ?_
    refine RunE.one (ok_load rfl rfl) rfl rfl rfl (by kernel_rfl) ?_
    iterate 2 refine RunE.one (ok_move rfl rfl) rfl rfl rfl (by kernel_rfl) ?_
    refine RunE.one (ok_ari (z := ((2 * g + 1 : Nat) : Int)) rfl rfl rfl (congrArg some (by omega)) (wrap_i64 (by omega) (by omega))) rfl rfl rfl (by kernel_rfl) ?_
    refine RunE.one (ok_indexAddr rfl rfl rfl (by omega) (y := (ns.getD (2 * g + 1) 0)) (e2)) rfl rfl rfl (by kernel_rfl) ?_
    refine RunE.one (ok_load rfl rfl) rfl rfl rfl (by kernel_rfl) ?_
    refine RunE.one (ok_call rfl rfl (rpOf_spec (p := (ns.getD (2 * g) 0 : Rat)) (q := (ns.getD (2 * g + 1) 0 : Rat)) (by omega) (by omega) (by omega) (by omega))) rfl rfl rfl (by kernel_rfl) ?_
    refine RunE.one (ok_buildSlice rfl rfl (by decide) rfl (by simp) rfl rfl) rfl rfl rfl (by kernel_rfl) ?_
    refine RunE.nil ⟨_, rfl, ?_⟩
    refine EffM.append 0 rfl rfl rfl rfl rfl rfl rfl hq (by rw [flat_pcan, ofL_len]) (fun z hz => by rw [List.mem_singleton.1 hz]; rfl) (by unfold big; simp; omega) (by unfold big; simp; omega) fun q24 hq24 => ⟨(.cons _ .slnil), ?_⟩
    refine RunE.nil ?_
    refine Run.one (ok_assign rfl rfl) rfl rfl rfl ?_
    refine Run.nil ?_
    refine T_region ?_
    refine Run.one (ok_move rfl rfl) rfl rfl rfl ?_
    refine Run.one (ok_ari (z := ((2 * (g + 1) : Nat) : Int)) rfl rfl rfl (congrArg some (by omega)) (wrap_i64 (by omega) (by omega))) rfl rfl rfl ?_
    refine Run.one (ok_assign rfl rfl) rfl rfl rfl ?_
    refine Run.nil ?_
    exact ⟨g + 1, q24, ⟨by omega, by rw [ofL_len]; exact hq24⟩, by omega, ent_h (subG_cons rfl (subG_as rfl (by rw [ofL_len]; rfl) (subG_cons rfl (trivial)))) (by rw [ofL_len, ofL_succ, List.flatMap_append]; rfl)⟩
  · have k9 := of_decide_eq_false h9
    obtain hge : g = ns.length / 2 := by omega
    rw [← hge]
    refine T_exit ?_
    refine T_ghost (ghost_sl 0 3 rfl rfl hq (l := ofL ns g) (f := pcan) (ofL_len ..) rfl (fun _ _ => rfl) (by unfold big; omega)) ?_
    refine T_regionS ?_
    refine Run.one (ok_move rfl rfl) rfl rfl rfl ?_
    refine Run.one (ok_assign rfl rfl) rfl rfl rfl ?_
    refine Run.nil ?_
    refine T_ret ?_
    exact ⟨_, [], .one (.tmp rfl), List.nil_sublist _, rfl, rfl⟩
theorem of_w {ns : List Int} {l : List V2} (hn : ∀ n ∈ ns, -100 ≤ n ∧ n ≤ 100) (hl : ns.length ≤ 20) (h : ofL ns (ns.length / 2) = l) : PSpec Tryz.prog G 47 [slS 1 id (ns.map i64C)] (slS 6 pcan l) := by
  have := of13_spec (G := G) hn hl
  rw [h] at this; exact this.args ⟨fun _ _ h => sl_pair (f := i64C) ns h, trivial⟩
theorem wakes13_spec [Tab G] : PSpec Tryz.prog G 12 [] (boolS true) := by
  refine fn_spec Tryz.func12 rfl rfl rfl ?_
  refine T_regionS ?_
  refine Run.one (ok_assign rfl rfl) rfl rfl rfl ?_
  refine Run.nil ?_
  refine T_regionS ?_
  refine Run.one (ok_buildSlice rfl rfl (by decide) rfl (by simp) (by kernel_rfl) (by kernel_rfl)) rfl rfl rfl ?_
  refine Run.one (ok_call rfl rfl (of_w (ns := N1) (l := W1) (by decide) (by decide) (by kernel_rfl))) rfl rfl rfl ?_
  refine Run.one (ok_assign rfl rfl) rfl rfl rfl ?_
  refine Run.nil ?_
  refine T_regionS ?_
  refine Run.one (ok_move rfl rfl) rfl rfl rfl ?_
  refine Run.one (ok_call rfl rfl (w_flat w1_sub (by decide) (r := [1]) (by kernel_rfl))) rfl rfl rfl ?_
  refine Run.one (ok_assign rfl rfl) rfl rfl rfl ?_
  refine Run.nil ?_
  refine T_regionS ?_
  refine Run.one (ok_buildSlice rfl rfl (by decide) rfl (by simp) (by kernel_rfl) (by kernel_rfl)) rfl rfl rfl ?_
  refine Run.one (ok_call rfl rfl (of_w (ns := N2) (l := W2) (by decide) (by decide) (by kernel_rfl))) rfl rfl rfl ?_
  refine Run.one (ok_call rfl rfl (w_sim w2_sub (r := false) (by kernel_rfl))) rfl rfl rfl ?_
  refine Run.one (ok_not rfl rfl) rfl rfl rfl ?_
  refine Run.one (ok_move rfl rfl) rfl rfl rfl ?_
  refine Run.one (ok_move rfl rfl) (gB rfl rfl rfl rfl) rfl rfl ?_
  refine Run.one (ok_call rfl rfl (w_sim w1_sub (r := true) (by kernel_rfl))) (gB rfl rfl rfl rfl) rfl rfl ?_
  refine Run.one (ok_pick rfl rfl rfl) rfl rfl rfl ?_
  refine Run.one (ok_move rfl rfl) rfl rfl rfl ?_
  refine Run.one (ok_move rfl rfl) (gB rfl rfl rfl rfl) rfl rfl ?_
  refine Run.one (ok_call rfl rfl (w_cvx w1_sub (by decide) (r := false) (by kernel_rfl))) (gB rfl rfl rfl rfl) rfl rfl ?_
  refine Run.one (ok_not rfl rfl) (gB rfl rfl rfl rfl) rfl rfl ?_
  refine Run.one (ok_pick rfl rfl rfl) rfl rfl rfl ?_
  refine Run.one (ok_move rfl rfl) rfl rfl rfl ?_
  refine Run.one (ok_move rfl rfl) (gB rfl rfl rfl rfl) rfl rfl ?_
  refine Run.one (ok_len rfl rfl) (gB rfl rfl rfl rfl) rfl rfl ?_
  refine Run.one (ok_cmp rfl rfl rfl rfl) (gB rfl rfl rfl rfl) rfl rfl ?_
  refine Run.one (ok_pick rfl rfl rfl) rfl rfl rfl ?_
  refine Run.one (ok_move rfl rfl) rfl rfl rfl ?_
  refine Run.one (ok_move rfl rfl) (gB rfl rfl rfl rfl) rfl rfl ?_
  refine Run.one (ok_indexAddr rfl rfl rfl (by omega) (y := (1 : Int)) (rfl)) (gB rfl rfl rfl rfl) rfl rfl ?_
  refine Run.one (ok_load rfl rfl) (gB rfl rfl rfl rfl) rfl rfl ?_
  refine Run.one (ok_cmp rfl rfl rfl rfl) (gB rfl rfl rfl rfl) rfl rfl ?_
  refine Run.one (ok_pick rfl rfl rfl) rfl rfl rfl ?_
  refine Run.one (ok_move rfl rfl) rfl rfl rfl ?_
  refine Run.one (ok_buildSlice rfl rfl (by decide) rfl (by simp) (by kernel_rfl) (by kernel_rfl)) (gB rfl rfl rfl rfl) rfl rfl ?_
  refine Run.one (ok_call rfl rfl (of_w (ns := N3) (l := W3) (by decide) (by decide) (by kernel_rfl))) (gB rfl rfl rfl rfl) rfl rfl ?_
  refine Run.one (ok_call rfl rfl (w_cvx w3_sub (by decide) (r := true) (by kernel_rfl))) (gB rfl rfl rfl rfl) rfl rfl ?_
  refine Run.one (ok_pick rfl rfl rfl) rfl rfl rfl ?_
  refine Run.one (ok_move rfl rfl) rfl rfl rfl ?_
  refine Run.one (ok_buildSlice rfl rfl (by decide) rfl (by simp) (by kernel_rfl) (by kernel_rfl)) (gB rfl rfl rfl rfl) rfl rfl ?_
  refine Run.one (ok_call rfl rfl (of_w (ns := N4) (l := W4) (by decide) (by decide) (by kernel_rfl))) (gB rfl rfl rfl rfl) rfl rfl ?_
  refine Run.one (ok_call rfl rfl (w_way w4_sub (by decide) (r := -1) (by kernel_rfl))) (gB rfl rfl rfl rfl) rfl rfl ?_
  refine Run.one (ok_cmp rfl rfl rfl rfl) (gB rfl rfl rfl rfl) rfl rfl ?_
  refine Run.one (ok_pick rfl rfl rfl) rfl rfl rfl ?_
  refine Run.one (ok_move rfl rfl) rfl rfl rfl ?_
  refine Run.one (ok_move rfl rfl) (gB rfl rfl rfl rfl) rfl rfl ?_
  refine Run.one (ok_call rfl rfl (w_area w1_sub (by decide) (r := 4) (by kernel_rfl))) (gB rfl rfl rfl rfl) rfl rfl ?_
  refine Run.one (ok_call rfl rfl (rqOf_spec (n := 4) (q := 4) (by decide) (by decide))) (gB rfl rfl rfl rfl) rfl rfl ?_
  refine Run.one ((ok_call rfl rfl toldq_spec).sub (bool_eq (c := true) (decide_eq_true rfl))) (gB rfl rfl rfl rfl) rfl rfl ?_
  refine Run.one (ok_pick rfl rfl rfl) rfl rfl rfl ?_
  refine Run.one (ok_assign rfl rfl) rfl rfl rfl ?_
  refine Run.nil ?_
  refine T_ret ?_
  exact ⟨_, [], .one (.tmp rfl), List.nil_sublist _, rfl, rfl⟩
theorem simpleTwice_spec [Tab G] {xs : List RawP} (hx : ∀ p ∈ xs, LimR p) {at0 : Int} {b : Bool} {l d : List Nat} (hl : Lim l ∧ Lim d) : PSpec Tryz.prog G 5 [slS 6 pc xs, intS .i64 at0, aggS [boolS b, natS l, natS d]] (boolS true) := by
  obtain ⟨t, ht⟩ : ∃ t, t = qv (b, l, d) := ⟨_, rfl⟩
  have it : IsQ b l d t (l.length + d.length + 1) := ht ▸ isQ_sz hl.1 hl.2
  have itb := it.bq
  refine fn_spec Tryz.func5 rfl rfl rfl ?_
  refine T_regionS ?_
  refine Run.one (ok_box rfl rfl) rfl rfl rfl ?_
  refine Run.one (ok_assign rfl rfl) rfl rfl rfl ?_
  refine Run.nil ?_
  refine T_seq ?_
  refine T_seqQ (K := fun S1 => ∃ w : Bool, (w = false → (¬ (20 < xs.length ∨ 80 < gs tsz xs xs.length)) ∧ l.length + d.length ≤ 40 ∧ xs.length ≤ 10 ∧ 3 ≤ xs.length ∧ 0 < tri t 0 ∧ tri t 1 < 0) ∧ Ent S1 ⟨130, [(37, boolS w), (5, ptrS [boolS b, natS l, natS d]), (1, intS .i64 at0), (0, slS 6 pc xs)], [], [], (0, false)⟩) ?_ ?_
  · refine T_len 0 rfl fun lx => ?_
    unfold big at lx
    refine T_draw 28 (by kernel_rfl) ?_
    refine Run.one (ok_move rfl rfl) rfl rfl rfl ?_
    refine Run.oneB (ok_call rfl rfl great13_spec) rfl rfl rfl (fun h1_1 => ?_) (fun h1_1 => ?_)
    · refine Run.one (ok_move rfl rfl) rfl rfl rfl ?_
      iterate 3 refine Run.no (gB rfl rfl rfl rfl) rfl rfl ?_
      refine Run.one (ok_pick rfl rfl rfl) rfl rfl rfl ?_
      refine Run.one (ok_move rfl rfl) rfl rfl rfl ?_
      iterate 3 refine Run.no (gB rfl rfl rfl rfl) rfl rfl ?_
      refine Run.one (ok_pick rfl rfl rfl) rfl rfl rfl ?_
      refine Run.one (ok_move rfl rfl) rfl rfl rfl ?_
      iterate 3 refine Run.no (gB rfl rfl rfl rfl) rfl rfl ?_
      refine Run.one (ok_pick rfl rfl rfl) rfl rfl rfl ?_
      refine Run.one (ok_move rfl rfl) rfl rfl rfl ?_
      iterate 3 refine Run.no (gB rfl rfl rfl rfl) rfl rfl ?_
      refine Run.one (ok_pick rfl rfl rfl) rfl rfl rfl ?_
      refine Run.one (ok_move rfl rfl) rfl rfl rfl ?_
      iterate 4 refine Run.no (gB rfl rfl rfl rfl) rfl rfl ?_
      refine Run.one (ok_pick rfl rfl rfl) rfl rfl rfl ?_
      iterate 2 refine Run.nil ?_
      exact ⟨true, (fun h => by cases h), ent_g (subG_cons rfl (subG_cons rfl (subG_cons rfl (subG_cons rfl (trivial)))))⟩
    · refine Run.one (ok_move rfl rfl) rfl rfl rfl ?_
      refine Run.one (ok_load_agg rfl rfl rfl rfl) (gB rfl rfl rfl rfl) rfl rfl ?_
      refine Run.one (ok_buildSlice rfl rfl (by decide) rfl (by simp) rfl rfl) (gB rfl rfl rfl rfl) rfl rfl ?_
      refine Run.one (ok_call rfl rfl ((rqGreat_spec (xs := [(b, l, d)])).args ⟨fun _ _ h => sl_pair (f := qc) [(b, l, d)] h, trivial⟩)) (gB rfl rfl rfl rfl) rfl rfl ?_
      refine Run.oneB (ok_pick rfl rfl rfl) rfl rfl rfl (fun h1_6 => ?_) (fun h1_6 => ?_)
      · refine Run.one (ok_move rfl rfl) rfl rfl rfl ?_
        iterate 3 refine Run.no (gB rfl rfl rfl rfl) rfl rfl ?_
        refine Run.one (ok_pick rfl rfl rfl) rfl rfl rfl ?_
        refine Run.one (ok_move rfl rfl) rfl rfl rfl ?_
        iterate 3 refine Run.no (gB rfl rfl rfl rfl) rfl rfl ?_
        refine Run.one (ok_pick rfl rfl rfl) rfl rfl rfl ?_
        refine Run.one (ok_move rfl rfl) rfl rfl rfl ?_
        iterate 3 refine Run.no (gB rfl rfl rfl rfl) rfl rfl ?_
        refine Run.one (ok_pick rfl rfl rfl) rfl rfl rfl ?_
        refine Run.one (ok_move rfl rfl) rfl rfl rfl ?_
        iterate 4 refine Run.no (gB rfl rfl rfl rfl) rfl rfl ?_
        refine Run.one (ok_pick rfl rfl rfl) rfl rfl rfl ?_
        iterate 2 refine Run.nil ?_
        exact ⟨true, (fun h => by cases h), ent_g (subG_cons rfl (subG_cons rfl (subG_cons rfl (subG_cons rfl (trivial)))))⟩
      · have hg7 : ¬ (60 < 1 ∨ 40 < gs qtz [(b, l, d)] 1) := of_decide_eq_false h1_6
        simp [gs, qtz] at hg7
        refine Run.one (ok_move rfl rfl) rfl rfl rfl ?_
        refine Run.one (ok_move rfl rfl) (gB rfl rfl rfl rfl) rfl rfl ?_
        refine Run.one (ok_len rfl rfl) (gB rfl rfl rfl rfl) rfl rfl ?_
        refine Run.one (ok_cmp rfl rfl rfl rfl) (gB rfl rfl rfl rfl) rfl rfl ?_
        refine Run.oneB (ok_pick rfl rfl rfl) rfl rfl rfl (fun h1_11 => ?_) (fun h1_11 => ?_)
        · have k1_11 := of_decide_eq_true h1_11
          refine Run.one (ok_move rfl rfl) rfl rfl rfl ?_
          iterate 3 refine Run.no (gB rfl rfl rfl rfl) rfl rfl ?_
          refine Run.one (ok_pick rfl rfl rfl) rfl rfl rfl ?_
          refine Run.one (ok_move rfl rfl) rfl rfl rfl ?_
          iterate 3 refine Run.no (gB rfl rfl rfl rfl) rfl rfl ?_
          refine Run.one (ok_pick rfl rfl rfl) rfl rfl rfl ?_
          refine Run.one (ok_move rfl rfl) rfl rfl rfl ?_
          iterate 4 refine Run.no (gB rfl rfl rfl rfl) rfl rfl ?_
          refine Run.one (ok_pick rfl rfl rfl) rfl rfl rfl ?_
          iterate 2 refine Run.nil ?_
          exact ⟨true, (fun h => by cases h), ent_g (subG_cons rfl (subG_cons rfl (subG_cons rfl (subG_cons rfl (trivial)))))⟩
        · have k1_11 := of_decide_eq_false h1_11
          refine Run.one (ok_move rfl rfl) rfl rfl rfl ?_
          refine Run.one (ok_move rfl rfl) (gB rfl rfl rfl rfl) rfl rfl ?_
          refine Run.one (ok_len rfl rfl) (gB rfl rfl rfl rfl) rfl rfl ?_
          refine Run.one (ok_cmp rfl rfl rfl rfl) (gB rfl rfl rfl rfl) rfl rfl ?_
          refine Run.oneB (ok_pick rfl rfl rfl) rfl rfl rfl (fun h1_16 => ?_) (fun h1_16 => ?_)
          · have k1_16 := of_decide_eq_true h1_16
            refine Run.one (ok_move rfl rfl) rfl rfl rfl ?_
            iterate 3 refine Run.no (gB rfl rfl rfl rfl) rfl rfl ?_
            refine Run.one (ok_pick rfl rfl rfl) rfl rfl rfl ?_
            refine Run.one (ok_move rfl rfl) rfl rfl rfl ?_
            iterate 4 refine Run.no (gB rfl rfl rfl rfl) rfl rfl ?_
            refine Run.one (ok_pick rfl rfl rfl) rfl rfl rfl ?_
            iterate 2 refine Run.nil ?_
            exact ⟨true, (fun h => by cases h), ent_g (subG_cons rfl (subG_cons rfl (subG_cons rfl (subG_cons rfl (trivial)))))⟩
          · have k1_16 := of_decide_eq_false h1_16
            refine Run.one (ok_move rfl rfl) rfl rfl rfl ?_
            refine Run.one (ok_load_agg rfl rfl rfl rfl) (gB rfl rfl rfl rfl) rfl rfl ?_
            refine Run.one (ok_call rfl rfl (rqSign_spec (by omega))) (gB rfl rfl rfl rfl) rfl rfl ?_
            refine Run.one (ok_cmp rfl rfl rfl rfl) (gB rfl rfl rfl rfl) rfl rfl ?_
            refine Run.oneB (ok_pick rfl rfl rfl) rfl rfl rfl (fun h1_21 => ?_) (fun h1_21 => ?_)
            · have k1_21 := of_decide_eq_true h1_21
              refine Run.one (ok_move rfl rfl) rfl rfl rfl ?_
              iterate 4 refine Run.no (gB rfl rfl rfl rfl) rfl rfl ?_
              refine Run.one (ok_pick rfl rfl rfl) rfl rfl rfl ?_
              iterate 2 refine Run.nil ?_
              exact ⟨true, (fun h => by cases h), ent_g (subG_cons rfl (subG_cons rfl (subG_cons rfl (subG_cons rfl (trivial)))))⟩
            · have k1_21 := of_decide_eq_false h1_21
              refine Run.one (ok_move rfl rfl) rfl rfl rfl ?_
              refine Run.one (ok_load_agg rfl rfl rfl rfl) (gB rfl rfl rfl rfl) rfl rfl ?_
              refine Run.one (ok_call rfl rfl (rqOf_spec (n := 1) (q := 1) (by decide) (by decide))) (gB rfl rfl rfl rfl) rfl rfl ?_
              refine Run.one (ok_call rfl rfl (rqcmp_spec (by omega))) (gB rfl rfl rfl rfl) rfl rfl ?_
              refine Run.one (ok_cmp rfl rfl rfl rfl) (gB rfl rfl rfl rfl) rfl rfl ?_
              refine Run.one (ok_pick rfl rfl rfl) rfl rfl rfl ?_
              iterate 2 refine Run.nil ?_
              exact ⟨_, (fun h => by have h9 := of_decide_eq_false h; refine ⟨of_decide_eq_false h1_1, ?_, ?_, ?_, ?_, ?_⟩ <;> omega), ent_g (subG_cons rfl (subG_cons rfl (subG_cons rfl (subG_cons rfl (trivial)))))⟩
  · rintro S1 ⟨w, hw, hS1⟩
    refine T_pre hS1 ?_
    refine T_cond rfl rfl (fun h37 => ?_) (fun h37 => ?_)
    · refine T_regionS ?_
      refine Run.one (ok_call rfl rfl wakes13_spec) rfl rfl rfl ?_
      refine Run.one (ok_assign rfl rfl) rfl rfl rfl ?_
      refine Run.nil ?_
      refine T_ret ?_
      exact ⟨_, [], .one (.tmp rfl), List.nil_sublist _, rfl, rfl⟩
    · obtain ⟨hg, hl40, hn10, hn3, ht0, ht1⟩ := hw h37
      obtain ⟨_, ho80, hts, hsum⟩ := gr13 hx hg
      obtain ⟨K, hKn, hKe, hr1, hr2⟩ := ring0 (z := at0) (n := xs.length) (by omega)
      obtain ⟨m0, hm0⟩ : ∃ m0, m0 = at0.tmod (xs.length : Nat) := ⟨_, rfl⟩
      rw [← hm0] at hKe hr1 hr2
      have ht0 : 0 < t := tri_pos.1 ht0
      have ht1 : t < 1 := tri_lt.1 ht1
      have hmk : K ∈ List.range xs.length := List.mem_range.2 hKn
      have hm : (K + 1) % xs.length < xs.length := Nat.mod_lt _ (by omega)
      have ma := getD_mem hKn
      have mb := getD_mem hm
      have la := hx _ ma
      have lb := hx _ mb
      have sa := hts _ ma
      have sb := hts _ mb
      have iax := isQ_sz (b := (ra xs K).1.1) la.1.1 la.1.2
      have iay := isQ_sz (b := (ra xs K).2.1) la.2.1 la.2.2
      have ibx := isQ_sz (b := (rb xs K).1.1) lb.1.1 lb.1.2
      have iby := isQ_sz (b := (rb xs K).2.1) lb.2.1 lb.2.2
      unfold tsz at sa sb
      obtain ⟨A, hA⟩ : ∃ A, A = xs.take (K + 1) := ⟨_, rfl⟩
      obtain ⟨B, hB⟩ : ∃ B, B = xs.drop (K + 1) := ⟨_, rfl⟩
      have hAl : A.length = K + 1 := by rw [hA, List.length_take]; omega
      have hBl : B.length = xs.length - (K + 1) := by rw [hB, List.length_drop]
      have hAo : ∀ p ∈ A, PtOk 80 p := fun p hp => ho80 p (List.mem_of_mem_take (hA ▸ hp))
      have hBo : ∀ p ∈ B, PtOk 80 p := fun p hp => ho80 p (List.mem_of_mem_drop (hB ▸ hp))
      have hAv : pvs2 A = (pvs2 xs).take (K + 1) := by rw [hA]; exact List.map_take
      have hBv : pvs2 B = (pvs2 xs).drop (K + 1) := by rw [hB]; exact List.map_drop
      have hLl : (pvs2 xs).length = xs.length := List.length_map _
      obtain ⟨P, hP⟩ : ∃ P, P = atP (pv (ra xs K)) (pv (rb xs K)) t := ⟨_, rfl⟩
      have hPc : P = atP (cor (pvs2 xs) K) (cor (pvs2 xs) (K + 1)) t := by rw [hP, cor_pv hKn, cor_pv1 hKn]
      obtain ⟨hsm, hsa, hsf, hsc⟩ := put_at (L := pvs2 xs) (K := K) (by omega) (by omega) ht0 ht1
      rw [← hPc, ← hAv, ← hBv] at hsm hsa hsf hsc
      have hMv : pvs2 (A ++ [rep P] ++ B) = pvs2 A ++ [P] ++ pvs2 B := by show List.map pv _ = _; rw [List.map_append, List.map_append]; show pvs2 A ++ [pv (rep P)] ++ pvs2 B = _; rw [pv_rep]
      rw [← hMv] at hsm hsa hsf hsc
      have bPx : Bq P.1 400 := by rw [hP]; exact bq_le (bq_add (hp := iax.bq) (hq := bq_mul (hp := bq_sub (hp := ibx.bq) (hq := iax.bq)) (hq := itb))) (by omega)
      have bPy : Bq P.2 400 := by rw [hP]; exact bq_le (bq_add (hp := iay.bq) (hq := bq_mul (hp := bq_sub (hp := iby.bq) (hq := iay.bq)) (hq := itb))) (by omega)
      have hMo : ∀ p ∈ (A ++ [rep P] ++ B), PtOk 400 p := fun p hp => by
        rcases List.mem_append.1 hp with hp | hp
        · rcases List.mem_append.1 hp with hp | hp
          · exact ptOk_le (hAo p hp) (by omega)
          · rw [List.mem_singleton.1 hp]; exact ptOk_rep bPx bPy
        · exact ptOk_le (hBo p hp) (by omega)
      have hTo : ∀ p ∈ (A ++ [ra xs K] ++ B), PtOk 80 p := fun p hp => by
        rcases List.mem_append.1 hp with hp | hp
        · rcases List.mem_append.1 hp with hp | hp
          · exact hAo p hp
          · rw [List.mem_singleton.1 hp]; exact ho80 _ ma
        · exact hBo p hp
      have hMl : (A ++ [rep P] ++ B).length = xs.length + 1 := by rw [List.length_append, List.length_append, List.length_singleton]; omega
      have hTl : (A ++ [ra xs K] ++ B).length = xs.length + 1 := by rw [List.length_append, List.length_append, List.length_singleton]; omega
      have htw : simB (pvs2 (A ++ [ra xs K] ++ B)) = false := by
        refine simB_twice (i := K) (j := K + 1) (by omega) (by rw [List.length_map]; omega) ?_
        rw [cor_pv (by omega), cor_pv (by omega)]
        congr 1
        have e1 : A[K]? = some (ra xs K) := by rw [hA, List.getElem?_take_of_lt (by omega)]; exact get_getD hKn
        show List.getD _ _ _ = List.getD _ _ _
        rw [List.getD_eq_getElem?_getD, List.getD_eq_getElem?_getD, List.append_assoc, List.getElem?_append_left (by omega), List.getElem?_append_right (by omega), e1, show K + 1 - A.length = 0 by omega]; rfl
      have bA := bq_le (bq_area2 hx) (show 2 * (xs.map tsz).sum + 6 * xs.length + 1 ≤ 230 by omega)
      obtain ⟨S0, hS0⟩ : ∃ S0, S0 = simB (pvs2 xs) := ⟨_, rfl⟩
      obtain ⟨F0, hF0⟩ : ∃ F0, F0 = (flatI (turnsV xs)).length := ⟨_, rfl⟩
      rw [← turnsV_eq, ← turnsV_eq, ← hF0] at hsf
      rw [← hS0] at hsm
      have hF1 : F0 ≤ 10 := by rw [hF0, flatI_length]; refine Nat.le_trans List.countP_le_length ?_; unfold turnsV; split; exact Nat.zero_le _; rw [List.length_map, List.length_range]; exact hn10
      refine T_skip ?_
      refine T_regionS ?_
      iterate 2 refine Run.one (ok_move rfl rfl) rfl rfl rfl ?_
      refine Run.one (ok_len rfl rfl) rfl rfl rfl ?_
      refine Run.one ((ok_rem0 rfl rfl rfl (by omega)).sub (int_eq hm0.symm)) rfl rfl rfl ?_
      refine Run.one (ok_move rfl rfl) rfl rfl rfl ?_
      refine Run.one (ok_len rfl rfl) rfl rfl rfl ?_
      refine Run.one (ok_ari (z := m0 + (xs.length : Int)) rfl rfl rfl (congrArg some (by omega)) (wrap_i64 (by omega) (by omega))) rfl rfl rfl ?_
      refine Run.one (ok_move rfl rfl) rfl rfl rfl ?_
      refine Run.one (ok_len rfl rfl) rfl rfl rfl ?_
      refine Run.one ((ok_rem rfl rfl rfl (by omega) (by omega)).sub (int_eq hKe)) rfl rfl rfl ?_
      refine Run.one (ok_assign rfl rfl) rfl rfl rfl ?_
      refine Run.nil ?_
      refine T_drawMPS [1, 2, 3, 4, 6, 7, 8, 9, 10, 12, 13, 14, 15, 0, 5, 11, 16, 17] 17 [13, 14, 15, 16] _ (by kernel_rfl) (by kernel_rfl) .slnil ?_
      iterate 2 refine RunE.lat (ok_move rfl rfl) rfl rfl rfl ?_
      refine RunE.lat (ok_ari (z := ((K + 1 : Nat) : Int)) rfl rfl rfl (congrArg some (by omega)) (wrap_i64 (by omega) (by omega))) rfl rfl rfl ?_
      refine RunE.lat ((ok_slice (lo := 0) (hi := K + 1) (m := 0) rfl rfl (.inl ⟨rfl, rfl⟩) (.inr ⟨_, _, rfl, rfl⟩) (.inl rfl) (by omega) (by omega)).sub (show ∀ I v, (slS 6 pc ((xs.take (K + 1)).drop 0)).den I v → (slS 6 pc A).den I v from fun I v h => by rw [List.drop_zero, ← hA] at h; exact h)) rfl rfl rfl ?_
      iterate 2 refine RunE.lat (ok_move rfl rfl) rfl rfl rfl ?_
      refine RunE.lat (ok_indexAddr rfl rfl rfl (by omega) (y := ra xs K) (get_getD hKn)) rfl rfl rfl ?_
      refine RunE.lat ((show OpOK _ _ _ _ _ (aggS (pc (ra xs K))) from ok_load_agg rfl rfl rfl rfl)) rfl rfl rfl ?_
      refine RunE.lat (ok_buildSlice rfl rfl (by decide) rfl (by simp) rfl rfl) rfl rfl rfl ?_
      iterate 2 refine RunE.lat (ok_move rfl rfl) rfl rfl rfl ?_
      refine RunE.lat (ok_ari (z := ((K + 1 : Nat) : Int)) rfl rfl rfl (congrArg some (by omega)) (wrap_i64 (by omega) (by omega))) rfl rfl rfl ?_
      refine RunE.lat ((ok_slice (lo := K + 1) (hi := xs.length) (m := 0) rfl rfl (.inr ⟨_, _, rfl, rfl⟩) (.inl ⟨rfl, rfl, rfl⟩) (.inl rfl) (by omega) (by omega)).sub (show ∀ I v, (slS 6 pc ((xs.take xs.length).drop (K + 1))).den I v → (slS 6 pc B).den I v from fun I v h => by rw [List.take_length, ← hB] at h; exact h)) rfl rfl rfl ?_
      refine RunE.nil ⟨_, rfl, ?_⟩
      refine .loc0 (l_buildRow rfl rfl (by decide) rfl (.inl rfl) rfl rfl) rfl rfl rfl ?_
      rintro s1 H1 ⟨b49, hb49, rfl, rfl⟩
      refine ⟨(.cons _ .slnil), ?_⟩
      refine RunE.nil ⟨_, rfl, ?_⟩
      refine EffM.append 0 rfl rfl rfl rfl rfl rfl rfl hb49 (rfl) (fun z hz => rfl) (by unfold big; simp; omega) (by unfold big; simp; omega) fun q54 hq54 => ⟨(.cons _ .slnil), ?_⟩
      refine RunE.nil ⟨_, rfl, ?_⟩
      refine EffM.append 0 rfl rfl rfl rfl rfl rfl rfl hq54 (by rw [Nat.zero_add]; exact flat_pc A) (fun z hz => by rw [List.mem_singleton.1 hz]; rfl) (by unfold big; simp; omega) (by unfold big; simp; omega) fun q60 hq60 => ⟨(.cons _ .slnil), ?_⟩
      refine RunE.nil ⟨_, rfl, ?_⟩
      refine EffM.append 0 rfl rfl rfl rfl rfl rfl rfl hq60 (by rw [List.length_append, Nat.zero_add, Nat.add_mul]; exact congrArg (· + 6) (flat_pc A)) (fun z hz => rfl) (by unfold big; simp; omega) (by unfold big; simp; omega) fun q65 hq65 => ⟨(.cons _ .slnil), ?_⟩
      refine RunE.nil ?_
      refine Run.one (ok_assign rfl rfl) rfl rfl rfl ?_
      refine Run.nil ?_
      refine T_seq ?_
      refine T_ghost (ghost_sl 0 7 rfl rfl hq65 (l := (A ++ [ra xs K] ++ B)) (f := pc) (by simp; omega) (by simp [List.flatMap_append]) (fun _ _ => rfl) (by unfold big; simp; omega)) ?_
      refine T_regionS ?_
      refine Run.one (ok_move rfl rfl) rfl rfl rfl ?_
      refine Run.one ((ok_call rfl rfl (simple_spec (xs := (A ++ [ra xs K] ++ B)) (k := 80) (by decide) hTo (by unfold cap; omega))).sub (bool_eq (c := false) htw)) rfl rfl rfl ?_
      refine Run.nil ?_
      refine T_condF rfl rfl ?_
      refine T_skip ?_
      refine T_drawAS 14 (by kernel_rfl) rfl rfl ?_
      iterate 2 refine RunE.lat (ok_move rfl rfl) rfl rfl rfl ?_
      refine RunE.lat (ok_indexAddr rfl rfl rfl (by omega) (y := ra xs K) (get_getD hKn)) rfl rfl rfl ?_
      refine RunE.lat ((show OpOK _ _ _ _ _ (aggS (pc (ra xs K))) from ok_load_agg rfl rfl rfl rfl)) rfl rfl rfl ?_
      iterate 2 refine RunE.lat (ok_move rfl rfl) rfl rfl rfl ?_
      refine RunE.lat (ok_ari (z := ((K + 1 : Nat) : Int)) rfl rfl rfl (congrArg some (by omega)) (wrap_i64 (by omega) (by omega))) rfl rfl rfl ?_
      refine RunE.lat (ok_move rfl rfl) rfl rfl rfl ?_
      refine RunE.lat (ok_len rfl rfl) rfl rfl rfl ?_
      refine RunE.lat ((ok_rem rfl rfl rfl (by omega) (by omega)).sub (int_eq (n := (((K + 1) % xs.length : Nat) : Int)) (by simp))) rfl rfl rfl ?_
      refine RunE.lat (ok_indexAddr rfl rfl rfl (by omega) (y := rb xs K) (get_getD hm)) rfl rfl rfl ?_
      refine RunE.lat ((show OpOK _ _ _ _ _ (aggS (pc (rb xs K))) from ok_load_agg rfl rfl rfl rfl)) rfl rfl rfl ?_
      refine RunE.lat (ok_load_agg rfl rfl rfl rfl) rfl rfl rfl ?_
      refine RunE.lat (ok_call rfl rfl (show PSpec _ _ _ _ (aggS (pcan P)) from by rw [hP]; exact rpAt_spec (hx1 := iax) (hy1 := iay) (hx2 := ibx) (hy2 := iby) (ht := it) (by omega))) rfl rfl rfl ?_
      refine RunE.nil ?_
      refine EffAA.mk1 rfl rfl rfl rfl rfl rfl rfl rfl (by intro h; cases h) rfl rfl rfl fun b8 => ?_
      refine Run.nil ?_
      refine T_drawMPS [1, 2, 3, 4, 6, 7, 9, 10, 11, 12, 0, 5, 8, 13, 14] 14 [10, 11, 12, 13] _ (by kernel_rfl) (by kernel_rfl) (.cons_cons _ .slnil) ?_
      iterate 2 refine RunE.lat (ok_move rfl rfl) rfl rfl rfl ?_
      refine RunE.lat (ok_ari (z := ((K + 1 : Nat) : Int)) rfl rfl rfl (congrArg some (by omega)) (wrap_i64 (by omega) (by omega))) rfl rfl rfl ?_
      refine RunE.lat ((ok_slice (lo := 0) (hi := K + 1) (m := 0) rfl rfl (.inl ⟨rfl, rfl⟩) (.inr ⟨_, _, rfl, rfl⟩) (.inl rfl) (by omega) (by omega)).sub (show ∀ I v, (slS 6 pc ((xs.take (K + 1)).drop 0)).den I v → (slS 6 pc A).den I v from fun I v h => by rw [List.drop_zero, ← hA] at h; exact h)) rfl rfl rfl ?_
      refine RunE.lat ((show OpOK _ _ _ _ _ (aggS (pc (rep P))) from ok_load_own_agg 0 rfl rfl rfl (by kernel_rfl) rfl)) rfl rfl rfl ?_
      refine RunE.lat (ok_buildSlice rfl rfl (by decide) rfl (by simp) rfl rfl) rfl rfl rfl ?_
      iterate 2 refine RunE.lat (ok_move rfl rfl) rfl rfl rfl ?_
      refine RunE.lat (ok_ari (z := ((K + 1 : Nat) : Int)) rfl rfl rfl (congrArg some (by omega)) (wrap_i64 (by omega) (by omega))) rfl rfl rfl ?_
      refine RunE.lat ((ok_slice (lo := K + 1) (hi := xs.length) (m := 0) rfl rfl (.inr ⟨_, _, rfl, rfl⟩) (.inl ⟨rfl, rfl, rfl⟩) (.inl rfl) (by omega) (by omega)).sub (show ∀ I v, (slS 6 pc ((xs.take xs.length).drop (K + 1))).den I v → (slS 6 pc B).den I v from fun I v h => by rw [List.take_length, ← hB] at h; exact h)) rfl rfl rfl ?_
      refine RunE.nil ⟨_, rfl, ?_⟩
      refine .loc0 (l_buildRow rfl rfl (by decide) rfl (.inl rfl) rfl rfl) rfl rfl rfl ?_
      rintro s1 H1 ⟨b82, hb82, rfl, rfl⟩
      refine ⟨(.cons _ (.cons_cons _ .slnil)), ?_⟩
      refine RunE.nil ⟨_, rfl, ?_⟩
      refine EffM.append 0 rfl rfl rfl rfl rfl rfl rfl hb82 (rfl) (fun z hz => rfl) (by unfold big; simp; omega) (by unfold big; simp; omega) fun q87 hq87 => ⟨(.cons _ (.cons_cons _ .slnil)), ?_⟩
      refine RunE.nil ⟨_, rfl, ?_⟩
      refine EffM.append 0 rfl rfl rfl rfl rfl rfl rfl hq87 (by rw [Nat.zero_add]; exact flat_pc A) (fun z hz => by rw [List.mem_singleton.1 hz]; rfl) (by unfold big; simp; omega) (by unfold big; simp; omega) fun q90 hq90 => ⟨(.cons _ (.cons_cons _ .slnil)), ?_⟩
      refine RunE.nil ⟨_, rfl, ?_⟩
      refine EffM.append 0 rfl rfl rfl rfl rfl rfl rfl hq90 (by rw [List.length_append, Nat.zero_add, Nat.add_mul]; exact congrArg (· + 6) (flat_pc A)) (fun z hz => rfl) (by unfold big; simp; omega) (by unfold big; simp; omega) fun q95 hq95 => ⟨(.cons _ (.cons_cons _ .slnil)), ?_⟩
      refine RunE.nil ?_
      refine Run.one (ok_assign rfl rfl) rfl rfl rfl ?_
      refine Run.nil ?_
      refine T_seq ?_
      refine T_ghost (ghost_sl 0 9 rfl rfl hq95 (l := (A ++ [rep P] ++ B)) (f := pc) (by simp; omega) (by simp [List.flatMap_append]) (fun _ _ => rfl) (by unfold big; simp; omega)) ?_
      refine T_regionS ?_
      refine Run.one (ok_move rfl rfl) rfl rfl rfl ?_
      refine Run.one ((ok_call rfl rfl (simple_spec (xs := (A ++ [rep P] ++ B)) (k := 400) (by decide) hMo (by unfold cap; omega))).sub (bool_eq (c := S0) hsm)) rfl rfl rfl ?_
      refine Run.one (ok_move rfl rfl) rfl rfl rfl ?_
      refine Run.one ((ok_call rfl rfl (simple_spec (xs := xs) (k := 80) (by decide) ho80 (by unfold cap; omega))).sub (bool_eq (c := S0) hS0.symm)) rfl rfl rfl ?_
      refine Run.one ((ok_neq_bool rfl rfl rfl Tryz.isBool4).sub (bool_eq (c := false) (by simp))) rfl rfl rfl ?_
      refine Run.one (ok_move rfl rfl) rfl rfl rfl ?_
      refine Run.one (ok_move rfl rfl) (gB rfl rfl rfl rfl) rfl rfl ?_
      refine Run.one (ok_call rfl rfl (show PSpec _ _ _ _ (aggS (canQ (areaL (pvs2 xs)))) from by rw [← hsa]; exact area_spec (k := 400) (by decide) hMo (by rw [hMl]; unfold cap; omega))) (gB rfl rfl rfl rfl) rfl rfl ?_
      refine Run.one (ok_move rfl rfl) (gB rfl rfl rfl rfl) rfl rfl ?_
      refine Run.one (ok_call rfl rfl (area_spec (k := 80) (by decide) ho80 (by unfold cap; omega))) (gB rfl rfl rfl rfl) rfl rfl ?_
      refine Run.one ((ok_call rfl rfl (rqsame_spec (by omega))).sub (bool_eq (c := true) (decide_eq_true rfl))) (gB rfl rfl rfl rfl) rfl rfl ?_
      refine Run.one (ok_not rfl rfl) (gB rfl rfl rfl rfl) rfl rfl ?_
      refine Run.one (ok_pick rfl rfl rfl) rfl rfl rfl ?_
      refine Run.nil ?_
      refine T_condF rfl rfl ?_
      refine T_skip ?_
      refine T_regionS ?_
      refine Run.one (ok_move rfl rfl) rfl rfl rfl ?_
      refine Run.one ((ok_call rfl rfl (simple_spec (xs := xs) (k := 80) (by decide) ho80 (by unfold cap; omega))).sub (bool_eq (c := S0) hS0.symm)) rfl rfl rfl ?_
      refine Run.oneB (ok_not rfl rfl) rfl rfl rfl (fun h11_2 => ?_) (fun h11_2 => ?_)
      · refine Run.one (ok_move rfl rfl) rfl rfl rfl ?_
        iterate 8 refine Run.no (gB rfl rfl rfl rfl) rfl rfl ?_
        refine Run.one (ok_pick rfl rfl rfl) rfl rfl rfl ?_
        refine Run.one (ok_move rfl rfl) rfl rfl rfl ?_
        refine Run.one (ok_move rfl rfl) (gB rfl rfl rfl rfl) rfl rfl ?_
        refine Run.one ((ok_call rfl rfl (convex_spec (xs := (A ++ [rep P] ++ B)) (k := 400) (by decide) hMo (by unfold cap; omega) (by rw [hMl]; unfold cap; omega))).sub (bool_eq (c := false) hsc)) (gB rfl rfl rfl rfl) rfl rfl ?_
        refine Run.one (ok_not rfl rfl) (gB rfl rfl rfl rfl) rfl rfl ?_
        refine Run.one (ok_pick rfl rfl rfl) rfl rfl rfl ?_
        refine Run.one (ok_move rfl rfl) rfl rfl rfl ?_
        refine Run.one (ok_call rfl rfl wakes13_spec) (gB rfl rfl rfl rfl) rfl rfl ?_
        refine Run.one (ok_pick rfl rfl rfl) rfl rfl rfl ?_
        refine Run.one (ok_assign rfl rfl) rfl rfl rfl ?_
        refine Run.nil ?_
        refine T_ret ?_
        exact ⟨_, [], .one (.tmp rfl), List.nil_sublist _, rfl, rfl⟩
      · refine Run.one (ok_move rfl rfl) rfl rfl rfl ?_
        refine Run.one (ok_move rfl rfl) (gB rfl rfl rfl rfl) rfl rfl ?_
        refine Run.one (ok_call rfl rfl (flat_spec (xs := (A ++ [rep P] ++ B)) (k := 400) (by decide) hMo (by unfold cap; omega) (by rw [hMl]; unfold cap; omega))) (gB rfl rfl rfl rfl) rfl rfl ?_
        refine Run.one ((ok_len rfl rfl).sub (int_eq (n := ((F0 + 1 : Nat) : Int)) (by rw [hsf]))) (gB rfl rfl rfl rfl) rfl rfl ?_
        refine Run.one (ok_move rfl rfl) (gB rfl rfl rfl rfl) rfl rfl ?_
        refine Run.one (ok_call rfl rfl (flat_spec (xs := xs) (k := 80) (by decide) ho80 (by unfold cap; omega) (by unfold cap; omega))) (gB rfl rfl rfl rfl) rfl rfl ?_
        refine Run.one ((ok_len rfl rfl).sub (int_eq (n := ((F0 : Nat) : Int)) (by rw [hF0]))) (gB rfl rfl rfl rfl) rfl rfl ?_
        refine Run.one (ok_ari (z := ((F0 + 1 : Nat) : Int)) rfl rfl rfl (congrArg some (by omega)) (wrap_i64 (by omega) (by omega))) (gB rfl rfl rfl rfl) rfl rfl ?_
        refine Run.one ((ok_cmp rfl rfl rfl rfl).sub (bool_eq (c := true) (by simp))) (gB rfl rfl rfl rfl) rfl rfl ?_
        refine Run.one (ok_pick rfl rfl rfl) rfl rfl rfl ?_
        refine Run.one (ok_move rfl rfl) rfl rfl rfl ?_
        refine Run.one (ok_move rfl rfl) (gB rfl rfl rfl rfl) rfl rfl ?_
        refine Run.one ((ok_call rfl rfl (convex_spec (xs := (A ++ [rep P] ++ B)) (k := 400) (by decide) hMo (by unfold cap; omega) (by rw [hMl]; unfold cap; omega))).sub (bool_eq (c := false) hsc)) (gB rfl rfl rfl rfl) rfl rfl ?_
        refine Run.one (ok_not rfl rfl) (gB rfl rfl rfl rfl) rfl rfl ?_
        refine Run.one (ok_pick rfl rfl rfl) rfl rfl rfl ?_
        refine Run.one (ok_move rfl rfl) rfl rfl rfl ?_
        refine Run.one (ok_call rfl rfl wakes13_spec) (gB rfl rfl rfl rfl) rfl rfl ?_
        refine Run.one (ok_pick rfl rfl rfl) rfl rfl rfl ?_
        refine Run.one (ok_assign rfl rfl) rfl rfl rfl ?_
        refine Run.nil ?_
        refine T_ret ?_
        exact ⟨_, [], .one (.tmp rfl), List.nil_sublist _, rfl, rfl⟩
end Go.Proofs
