/- Polygons: their edges, each two of these, whether they are simple. -/
import Derived.Test.YtofplgefmjojjaaGreatDoorSge
import Derived.Test.YtofplgefmjojjaaGreatDoorSn2
import Derived.Test.YtofplgefmjojjaaGreatDoorSv1
namespace Go.Sv
open Go Go.RowKit
theorem ok_field {P : Program} {G : Imm} {H : HL} {o : Oper} {g : List (Nat × SV)} {st ft k : Nat} {fs : Array Field} {f : Field} {x : Operand} {cs : List SV} {s : SV} [IsScalar P ft] (hu : P.underlying st = some (.struct fs)) (hf : fs[k]? = some f) (hft : f.type = ft) (hop : o.op = .field st x k) (hx : opE g x = some (aggS cs)) (hd : cs[f.offset]? = some s) : OpOK P G H o g s :=
  ok_pure (by simp [hop]) fun I W a _ _ hr => by
    obtain ⟨xs, hv, hxs, h1⟩ := hr.get (by simp [hop, Op.operands]) hx
    obtain ⟨d, hd', hm⟩ := IsScalar.h (P := P) (t := ft)
    have h2 : (isAgg ft).run P W = .ok false W := by
      unfold isAgg; simp only [Sem.run_bind, run_underlying hd', Result.andThen_ok]
      cases d <;> simp_all
    obtain ⟨y, hy, hys⟩ := hxs.get hd
    have h4 : xs.toArray[f.offset]? = some y := by simp [hy]
    refine ⟨y, ?_, hys⟩
    simp only [execOp, hop, hv, Instr.field, Sem.run_bind, run_underlying hu, Result.andThen_ok, hf, asAgg, Sem.run_pure, part, hft, h2, h4, if_false, Bool.false_eq_true]
instance {l : Nat} : One (yieldS l) := ⟨one_eqS rfl⟩
end Go.Sv
namespace Num
open Go Go.Proofs
def prA (n a b : Nat) : List (Nat × Nat) := ((List.range a).flatMap fun i => ((List.range n).filter fun j => decide (i < j)).map fun j => (i, j)) ++ ((List.range b).filter fun j => decide (a < j)).map fun j => (a, j)
theorem prA_succ (n a b : Nat) : prA n a (b + 1) = if a < b then prA n a b ++ [(a, b)] else prA n a b := by
  unfold prA
  rw [List.range_succ, List.filter_append, List.map_append, ← List.append_assoc]
  split
  · rename_i h; rw [List.filter_cons, if_pos (decide_eq_true h)]; rfl
  · rename_i h; rw [List.filter_cons, if_neg (by simpa using h)]; simp
theorem prA_next (n a : Nat) : prA n a n = prA n (a + 1) 0 := by
  unfold prA
  rw [List.range_succ, List.flatMap_append, List.flatMap_singleton]; simp
theorem prA_all (n : Nat) : prA n n 0 = prs n := by unfold prA prs; simp
theorem pre_app {α : Type} (a b : List α) : a <+: a ++ b := ⟨b, rfl⟩
theorem prA_pre {n a b : Nat} (ha : a < n) (hb : b ≤ n) : prA n a b <+: prs n := by
  have h1 : ∀ d, b + d = n → prA n a b <+: prA n a n := fun d => by
    induction d generalizing b with
    | zero => intro h; rw [show b = n by omega]; exact List.prefix_refl _
    | succ d ih =>
      intro h
      refine List.IsPrefix.trans ?_ (ih (b := b + 1) (by omega) (by omega))
      rw [prA_succ]; split
      · exact pre_app _ _
      · exact List.prefix_refl _
  refine (h1 (n - b) (by omega)).trans ?_
  rw [prA_next, ← prA_all]
  obtain ⟨m, rfl⟩ : ∃ m, n = a + 1 + m := ⟨n - (a + 1), by omega⟩
  unfold prA
  rw [List.range_add, List.flatMap_append]
  simp only [List.range_zero, List.filter_nil, List.map_nil, List.append_nil]
  exact pre_app _ _
theorem pre_get {α : Type} {a b : List α} {x : α} (h : a ++ [x] <+: b) : b[a.length]? = some x := by
  obtain ⟨c, rfl⟩ := h
  rw [List.append_assoc, List.getElem?_append_right (Nat.le_refl _)]; simp
theorem prs_small {n : Nat} (h : n < 2) : prs n = [] := by
  have : n = 0 ∨ n = 1 := by omega
  rcases this with rfl | rfl <;> rfl
end Num
namespace Go.Proofs
open Go Go.Sv Num
variable {G : Imm}
abbrev ra (xs : List RawP) (i : Nat) : RawP := xs.getD i default
abbrev rb (xs : List RawP) (i : Nat) : RawP := xs.getD ((i + 1) % xs.length) default
abbrev edC (xs : List RawP) (i : Nat) : List SV := intS .i64 (i : Nat) :: (pc (ra xs i) ++ pc (rb xs i))
def edN (xs : List RawP) (k : Nat) : Nat := if xs.length < 2 then 0 else k
def edX (xs : List RawP) : List (List SV) := (List.range (edN xs xs.length)).map fun i => [aggS (edC xs i)]
theorem edX_length (xs : List RawP) : (edX xs).length = edN xs xs.length := by simp [edX]
theorem edX_get {xs : List RawP} {i : Nat} (h : i < xs.length) (h2 : ¬ xs.length < 2) : (edX xs)[i]? = some [aggS (edC xs i)] := by simp [edX, edN, h, h2]
theorem edX_inv {xs : List RawP} {i : Nat} {ss : List SV} (h : (edX xs)[i]? = some ss) : i < xs.length ∧ ¬ xs.length < 2 ∧ ss = [aggS (edC xs i)] := by
  have hl := lt_of_get h
  rw [edX_length] at hl
  unfold edN at hl
  by_cases h2 : xs.length < 2
  · rw [if_pos h2] at hl; omega
  · rw [if_neg h2] at hl
    rw [edX_get hl h2] at h
    exact ⟨hl, h2, (Option.some.inj h).symm⟩
theorem edX_ss {xs : List RawP} {ss : List SV} (h : ss ∈ edX xs) : ss.length = 1 := by
  simp only [edX, List.mem_map] at h
  obtain ⟨i, _, rfl⟩ := h
  rfl
def prX (xs : List RawP) : List (List SV) := (prs xs.length).map fun x => [aggS (edC xs x.1), aggS (edC xs x.2)]
theorem prX_length (xs : List RawP) : (prX xs).length = (prs xs.length).length := by simp [prX]
theorem prX_get {xs : List RawP} {a b : Nat} (h1 : a < b) (h2 : b < xs.length) : (prX xs)[(prA xs.length a b).length]? = some [aggS (edC xs a), aggS (edC xs b)] := by
  have h := prA_pre (n := xs.length) (a := a) (b := b + 1) (by omega) (by omega)
  rw [prA_succ, if_pos h1] at h
  unfold prX
  rw [List.getElem?_map, pre_get h]; rfl
theorem prX_inv {xs : List RawP} {k : Nat} {ss : List SV} (h : (prX xs)[k]? = some ss) : ∃ a b, (prs xs.length)[k]? = some (a, b) ∧ a < b ∧ b < xs.length ∧ ss = [aggS (edC xs a), aggS (edC xs b)] := by
  simp only [prX, List.getElem?_map, Option.map_eq_some_iff] at h
  obtain ⟨⟨a, b⟩, h1, h2⟩ := h
  have := mem_prs.1 (List.mem_of_getElem? h1)
  exact ⟨a, b, h1, this.1, this.2, h2.symm⟩
theorem prX_ss {xs : List RawP} {ss : List SV} (h : ss ∈ prX xs) : ss.length = 2 := by
  simp only [prX, List.mem_map] at h
  obtain ⟨i, _, rfl⟩ := h
  rfl
abbrev pvs2 (xs : List RawP) : List V2 := xs.map pv
theorem cor_pv {xs : List RawP} {i : Nat} (h : i < xs.length) : cor (pvs2 xs) i = pv (ra xs i) := by
  unfold cor
  rw [List.length_map, Nat.mod_eq_of_lt h, List.getD_eq_getElem?_getD, List.getElem?_map, get_getD h]; rfl
theorem cor_pv1 {xs : List RawP} {i : Nat} (h : i < xs.length) : cor (pvs2 xs) (i + 1) = pv (rb xs i) := by
  have hm : (i + 1) % xs.length < xs.length := Nat.mod_lt _ (by omega)
  unfold cor
  rw [List.length_map, List.getD_eq_getElem?_getD, List.getElem?_map, get_getD hm]; rfl
theorem nilP_sub : subL [eqS (.bool false), eqS (.slice none 0 0), eqS (.slice none 0 0), eqS (.bool false), eqS (.slice none 0 0), eqS (.slice none 0 0)] (pc default) := ⟨fun _ _ h => h, nil_nat rfl, nil_nat rfl, fun _ _ h => h, nil_nat rfl, nil_nat rfl, trivial⟩
abbrev edOk (xs : List RawP) (i : Nat) : Prop := ¬ xs.length < 2 ∧ i < xs.length
theorem sameR [Tab G] {p q : RawP} {k : Nat} (hk : 0 < k) (hp : PtOk k p) (hq : PtOk k q) (hs : 400 * k + 21000 ≤ cap) : PSpec Tryz.prog G 50 [aggS (pc p), aggS (pc q)] (boolS (decide (pv p = pv q))) := by
  have i1 := isQ_lim (b := p.1.1) hp.1 hk
  have i2 := isQ_lim (b := p.2.1) hp.2 hk
  have i3 := isQ_lim (b := q.1.1) hq.1 hk
  have i4 := isQ_lim (b := q.2.1) hq.2 hk
  have h : PSpec Tryz.prog G 50 [aggS (pc p), aggS (pc q)] (boolS (decide ((pv p).1 = (pv q).1 ∧ (pv p).2 = (pv q).2))) := vSame_spec (hx1 := i1) (hy1 := i2) (hx2 := i3) (hy2 := i4) (by omega)
  rw [decide_eq_decide.2 (show pv p = pv q ↔ _ from Prod.ext_iff)]
  exact h
def simT (xs : List RawP) (k : Nat) : Bool := decide (3 ≤ xs.length) && ((prs xs.length).take k).all (prOk (pvs2 xs))
theorem simT_zero (xs : List RawP) : simT xs 0 = decide (3 ≤ xs.length) := by unfold simT; simp
theorem simT_succ {xs : List RawP} {k : Nat} {x : Nat × Nat} (h : (prs xs.length)[k]? = some x) : simT xs (k + 1) = (simT xs k && prOk (pvs2 xs) x) := by
  unfold simT; rw [List.take_add_one, h]; simp [Bool.and_assoc]
theorem simT_all (xs : List RawP) : simT xs (prs xs.length).length = simB (pvs2 xs) := by unfold simT simB; rw [List.take_length, List.length_map]
theorem simT_false {xs : List RawP} {k : Nat} (h : simT xs k = false) : simB (pvs2 xs) = false := by
  unfold simT at h; unfold simB
  rw [List.length_map]
  rcases Bool.and_eq_false_iff.1 h with h | h
  · rw [h]; rfl
  · have : (prs xs.length).all (prOk (pvs2 xs)) = false := by
      rw [← List.take_append_drop k (prs xs.length), List.all_append, h]; rfl
    rw [this, Bool.and_false]
theorem prOk_raw {xs : List RawP} {a b : Nat} (ha : a < xs.length) (hb : b < xs.length) : prOk (pvs2 xs) (a, b) = (!decide (pv (ra xs a) = pv (ra xs b)) && decide ((mtF (fromF (pv (ra xs a)) (pv (rb xs a))) (fromF (pv (ra xs b)) (pv (rb xs b)))).1 = wantF xs.length a b)) := by
  unfold prOk kin
  rw [cor_pv ha, cor_pv hb, cor_pv1 ha, cor_pv1 hb, List.length_map]
theorem edge_spec {xs : List RawP} {i : Nat} (hi : i < 4611686018427387904) : PSpec Tryz.prog G 21 [slS 6 pc xs, intS .i64 (i : Nat)] (tupS [aggS (pc (if edOk xs i then ra xs i else default)), aggS (pc (if edOk xs i then rb xs i else default)), boolS (decide (edOk xs i))]) := by
  refine fn_spec Tryz.func21 rfl rfl rfl ?_
  refine T_regionS ?_
  refine Run.alloc rfl rfl rfl rfl rfl fun b4 => ?_
  refine Run.alloc rfl rfl rfl rfl rfl fun b5 => ?_
  refine Run.one (ok_assign rfl rfl) rfl rfl rfl ?_
  refine Run.nil ?_
  refine T_seq ?_
  refine T_seqQ (K := fun S1 => Ent S1 ⟨34, [(19, boolS (!decide (edOk xs i))), (5, eqS (.pointer (some ⟨b5, 0, none⟩))), (4, eqS (.pointer (some ⟨b4, 0, none⟩))), (1, intS .i64 (i : Nat)), (0, slS 6 pc xs)], [⟨some b5, 30, [eqS (.bool false), eqS (.slice none 0 0), eqS (.slice none 0 0), eqS (.bool false), eqS (.slice none 0 0), eqS (.slice none 0 0)], 0⟩, ⟨some b4, 30, [eqS (.bool false), eqS (.slice none 0 0), eqS (.slice none 0 0), eqS (.bool false), eqS (.slice none 0 0), eqS (.slice none 0 0)], 0⟩], [], (0, false)⟩) ?_ ?_
  · refine T_region ?_
    refine Run.one (ok_move rfl rfl) rfl rfl rfl ?_
    refine Run.one (ok_len rfl rfl) rfl rfl rfl ?_
    refine Run.oneB (ok_cmp rfl rfl rfl rfl) rfl rfl rfl (fun h1_2 => ?_) (fun h1_2 => ?_)
    · have k1_2 := of_decide_eq_true h1_2
      refine Run.one (ok_move rfl rfl) rfl rfl rfl ?_
      iterate 2 refine Run.no (gB rfl rfl rfl rfl) rfl rfl ?_
      refine Run.one (ok_pick rfl rfl rfl) rfl rfl rfl ?_
      refine Run.one (ok_move rfl rfl) rfl rfl rfl ?_
      iterate 4 refine Run.no (gB rfl rfl rfl rfl) rfl rfl ?_
      refine Run.one (ok_pick rfl rfl rfl) rfl rfl rfl ?_
      refine Run.nil ?_
      exact (by rw [decide_eq_false (fun h => h.1 (by omega))]; exact ent_h (subG_cons rfl (subG_cons rfl (subG_cons rfl (subG_cons rfl (subG_cons rfl (trivial)))))) rfl)
    · have k1_2 := of_decide_eq_false h1_2
      refine Run.one (ok_move rfl rfl) rfl rfl rfl ?_
      refine Run.one (ok_move rfl rfl) (gB rfl rfl rfl rfl) rfl rfl ?_
      refine Run.one (ok_cmp rfl rfl rfl rfl) (gB rfl rfl rfl rfl) rfl rfl ?_
      refine Run.oneB (ok_pick rfl rfl rfl) rfl rfl rfl (fun h1_6 => ?_) (fun h1_6 => ?_)
      · have k1_6 := of_decide_eq_true h1_6
        refine Run.one (ok_move rfl rfl) rfl rfl rfl ?_
        iterate 4 refine Run.no (gB rfl rfl rfl rfl) rfl rfl ?_
        refine Run.one (ok_pick rfl rfl rfl) rfl rfl rfl ?_
        refine Run.nil ?_
        exact (by rw [decide_eq_false (fun h => by omega)]; exact ent_h (subG_cons rfl (subG_cons rfl (subG_cons rfl (subG_cons rfl (subG_cons rfl (trivial)))))) rfl)
      · have k1_6 := of_decide_eq_false h1_6
        refine Run.one (ok_move rfl rfl) rfl rfl rfl ?_
        iterate 2 refine Run.one (ok_move rfl rfl) (gB rfl rfl rfl rfl) rfl rfl ?_
        refine Run.one (ok_len rfl rfl) (gB rfl rfl rfl rfl) rfl rfl ?_
        refine Run.one (ok_cmp rfl rfl rfl rfl) (gB rfl rfl rfl rfl) rfl rfl ?_
        refine Run.one (ok_pick rfl rfl rfl) rfl rfl rfl ?_
        refine Run.nil ?_
        exact (by rw [show (!decide (edOk xs i)) = decide ((xs.length : Int) ≤ (i : Int)) by rw [Bool.eq_iff_iff, Bool.not_eq_true', decide_eq_false_iff_not, decide_eq_true_iff]; omega]; exact ent_h (subG_cons rfl (subG_cons rfl (subG_cons rfl (subG_cons rfl (subG_cons rfl (trivial)))))) rfl)
  · intro S1 hS1
    refine T_pre hS1 ?_
    refine T_cond rfl rfl (fun h19 => ?_) (fun h19 => ?_)
    · have hno : ¬ edOk xs i := by rw [Bool.not_eq_true'] at h19; exact of_decide_eq_false h19
      refine T_drawMS 4 [2, 3] _ (by kernel_rfl) (.cons_cons _ (.cons_cons _ .slnil)) ?_
      refine RunE.one (ok_load_own_agg 1 rfl rfl rfl rfl rfl) rfl rfl rfl (by kernel_rfl) ?_
      refine RunE.lat (ok_load_own_agg 0 rfl rfl rfl rfl rfl) rfl rfl rfl ?_
      refine RunE.nil ⟨_, rfl, ?_⟩
      refine .loc1n 1 (l_store rfl rfl rfl rfl (by first | decide | (simp; done) | (simp; omega))) rfl rfl rfl ?_
      rintro s1 H1 ⟨rfl, rfl⟩
      refine ⟨(.cons_cons _ (.cons_cons _ .slnil)), ?_⟩
      refine RunE.nil ⟨_, rfl, ?_⟩
      refine .loc1n 0 (l_store rfl rfl rfl rfl (by first | decide | (simp; done) | (simp; omega))) rfl rfl rfl ?_
      rintro s1 H1 ⟨rfl, rfl⟩
      refine ⟨(.cons_cons _ (.cons_cons _ .slnil)), ?_⟩
      refine RunE.nil ?_
      refine Run.one (ok_assign rfl rfl) rfl rfl rfl ?_
      refine Run.ghost _ rfl (ghost_heap (show subH [⟨some b5, 30, [eqS (.bool false), eqS (.slice none 0 0), eqS (.slice none 0 0), eqS (.bool false), eqS (.slice none 0 0), eqS (.slice none 0 0)], 0⟩, ⟨some b4, 30, [eqS (.bool false), eqS (.slice none 0 0), eqS (.slice none 0 0), eqS (.bool false), eqS (.slice none 0 0), eqS (.slice none 0 0)], 0⟩] [⟨some b5, 30, pc default, 0⟩, ⟨some b4, 30, pc default, 0⟩] from ⟨rfl, rfl, rfl, rfl, fun I xs hd => nilP_sub.dens hd, rfl, rfl, rfl, rfl, fun I xs hd => nilP_sub.dens hd, trivial⟩)) ?_
      refine Run.nil ?_
      refine T_ret ?_
      exact ⟨_, [], .many (.cons (.agg 1 inferInstance rfl rfl rfl rfl) (.cons (.agg 0 inferInstance rfl rfl rfl rfl) (.cons (.tmp rfl) (.nil)))), List.nil_sublist _, by rw [if_neg hno, if_neg hno, decide_eq_false hno]; rfl, rfl⟩
    · have hok : edOk xs i := by rw [Bool.not_eq_false'] at h19; exact of_decide_eq_true h19
      obtain ⟨hok1, hok2⟩ := hok
      have hm : (i + 1) % xs.length < xs.length := Nat.mod_lt _ (by omega)
      refine T_skip ?_
      refine T_drawMS 14 [12, 13] _ (by kernel_rfl) (.cons _ (.cons _ .slnil)) ?_
      iterate 2 refine RunE.one (ok_move rfl rfl) rfl rfl rfl (by kernel_rfl) ?_
      refine RunE.one (ok_indexAddr rfl rfl rfl (by omega) (y := ra xs i) (get_getD hok2)) rfl rfl rfl (by kernel_rfl) ?_
      refine RunE.one ((show OpOK _ _ _ _ _ (aggS (pc (ra xs i))) from ok_load_agg rfl rfl rfl rfl)) rfl rfl rfl (by kernel_rfl) ?_
      iterate 2 refine RunE.lat (ok_move rfl rfl) rfl rfl rfl ?_
      refine RunE.lat (ok_ari (z := ((i + 1 : Nat) : Int)) rfl rfl rfl (congrArg some (by omega)) (wrap_i64 (by omega) (by omega))) rfl rfl rfl ?_
      refine RunE.lat (ok_move rfl rfl) rfl rfl rfl ?_
      refine RunE.lat (ok_len rfl rfl) rfl rfl rfl ?_
      refine RunE.lat ((ok_rem rfl rfl rfl (by omega) (by omega)).sub (int_eq (n := (((i + 1) % xs.length : Nat) : Int)) (by simp))) rfl rfl rfl ?_
      refine RunE.lat (ok_indexAddr rfl rfl rfl (by omega) (y := rb xs i) (get_getD hm)) rfl rfl rfl ?_
      refine RunE.lat ((show OpOK _ _ _ _ _ (aggS (pc (rb xs i))) from ok_load_agg rfl rfl rfl rfl)) rfl rfl rfl ?_
      refine RunE.nil ⟨_, rfl, ?_⟩
      refine .loc1n 1 (l_store rfl rfl rfl rfl (by first | decide | (simp; done) | (simp; omega))) rfl rfl rfl ?_
      rintro s1 H1 ⟨rfl, rfl⟩
      refine ⟨(.cons _ (.cons _ .slnil)), ?_⟩
      refine RunE.nil ⟨_, rfl, ?_⟩
      refine .loc1n 0 (l_store rfl rfl rfl rfl (by first | decide | (simp; done) | (simp; omega))) rfl rfl rfl ?_
      rintro s1 H1 ⟨rfl, rfl⟩
      refine ⟨(.cons _ (.cons _ .slnil)), ?_⟩
      refine RunE.nil ?_
      refine Run.one (ok_assign rfl rfl) rfl rfl rfl ?_
      refine Run.nil ?_
      refine T_ret ?_
      exact ⟨_, [], .many (.cons (.agg 1 inferInstance rfl rfl rfl rfl) (.cons (.agg 0 inferInstance rfl rfl rfl rfl) (.cons (.tmp rfl) (.nil)))), List.nil_sublist _, by rw [if_pos ⟨hok1, hok2⟩, if_pos ⟨hok1, hok2⟩, decide_eq_true ⟨hok1, hok2⟩]; rfl, rfl⟩
theorem edges1_spec {xs : List RawP} : IterSpec Tryz.prog G 131 [ptrS [slS 6 pc xs]] (edX xs) := by
  refine iter_spec Tryz.func131 rfl rfl rfl rfl fun l E hy => ?_
  refine T_regionS ?_
  refine Run.one (ok_load rfl rfl) rfl rfl rfl ?_
  refine Run.one (ok_len rfl rfl) rfl rfl rfl ?_
  refine Run.one (ok_move rfl rfl) rfl rfl rfl ?_
  refine Run.nil ?_
  refine T_block ?_
  refine T_len 7 rfl fun la => ?_
  unfold big at la
  refine T_loop (γ := Nat) (fun g => ⟨30, [(9, intS .i64 (g : Nat)), (8, intS .i64 xs.length), (0, yieldS l), (1, ptrS [slS 6 pc xs])], [], [], (edN xs g, false)⟩) (fun g => g ≤ xs.length) (fun g => xs.length - g) 0 (Nat.zero_le _) ?_ ?_
  · rw [show edN xs 0 = 0 by unfold edN; split <;> rfl]; exact ent_g (subG_cons rfl (subG_cons rfl (subG_cons rfl (subG_cons rfl (trivial)))))
  intro g hg
  refine T_regionS ?_
  refine Run.one (ok_cmp rfl rfl rfl rfl) rfl rfl rfl ?_
  refine Run.nil ?_
  refine T_seq ?_
  refine T_cond rfl rfl (fun h10 => ?_) (fun h10 => ?_)
  · have k10 := of_decide_eq_true h10
    have hg1 : g < xs.length := by omega
    refine T_skip ?_
    refine T_seq ?_
    refine T_block ?_
    refine T_regionS ?_
    refine Run.one (ok_move rfl rfl) rfl rfl rfl ?_
    refine Run.one (ok_assign rfl rfl) rfl rfl rfl ?_
    refine Run.nil ?_
    refine T_regionS ?_
    refine Run.one (ok_load rfl rfl) rfl rfl rfl ?_
    refine Run.one (ok_move rfl rfl) rfl rfl rfl ?_
    refine Run.one (ok_call rfl rfl (edge_spec (by omega))) rfl rfl rfl ?_
    refine Run.one (ok_move rfl rfl) rfl rfl rfl ?_
    iterate 3 refine Run.one (ok_extract rfl rfl rfl) rfl rfl rfl ?_
    refine Run.alloc rfl rfl rfl rfl rfl fun b4 => ?_
    refine Run.alloc rfl rfl rfl rfl rfl fun b5 => ?_
    refine Run.store 1 rfl rfl rfl rfl rfl rfl rfl rfl rfl ?_
    refine Run.store 0 rfl rfl rfl rfl rfl rfl rfl rfl rfl ?_
    refine Run.one (ok_assign rfl rfl) rfl rfl rfl ?_
    refine Run.nil ?_
    refine T_regionS ?_
    refine Run.oneB (ok_move rfl rfl) rfl rfl rfl (fun h4_0 => ?_) (fun h4_0 => ?_)
    · have hok : edOk xs g := of_decide_eq_true h4_0
      have hee : edN xs g = g := if_neg hok.1
      rw [show (if edOk xs g then ra xs g else default) = ra xs g from if_pos hok, show (if edOk xs g then rb xs g else default) = rb xs g from if_pos hok]
      refine Run.one (ok_move rfl rfl) rfl rfl rfl ?_
      iterate 2 refine Run.one (ok_move rfl rfl) (gB rfl rfl rfl rfl) rfl rfl ?_
      refine Run.one (ok_load_own_agg 1 rfl rfl rfl rfl rfl) (gB rfl rfl rfl rfl) rfl rfl ?_
      refine Run.one (ok_load_own_agg 0 rfl rfl rfl rfl rfl) (gB rfl rfl rfl rfl) rfl rfl ?_
      refine Run.one ((show OpOK _ _ _ _ _ (aggS (edC xs g)) from ok_build rfl rfl (by kernel_rfl))) (gB rfl rfl rfl rfl) rfl rfl ?_
      rw [hee]
      refine Run.yield rfl hy rfl rfl rfl (edX_get hg1 hok.1) (subL_refl _) (gB rfl rfl rfl rfl) rfl rfl fun y => ?_
      refine Run.one (ok_not rfl rfl) (gB rfl rfl rfl rfl) rfl rfl ?_
      refine Run.one (ok_pick rfl rfl rfl) rfl rfl rfl ?_
      refine Run.nil ?_
      refine T_cond rfl rfl (fun h28 => ?_) (fun h28 => ?_)
      · refine T_ret ?_
        exact ⟨.inl rfl, .inr h28⟩
      · refine T_skip ?_
        refine T_region ?_
        refine Run.one (ok_ari (z := ((g + 1 : Nat) : Int)) rfl rfl rfl (congrArg some (by omega)) (wrap_i64 (by omega) (by omega))) rfl rfl rfl ?_
        refine Run.one (ok_move rfl rfl) rfl rfl rfl ?_
        refine Run.ghost _ rfl (ghost_drop (List.nil_sublist _)) ?_
        refine Run.nil ?_
        exact ⟨g + 1, (by omega : g + 1 ≤ xs.length), by omega, rfl, subG_cons rfl (subG_cons rfl (subG_cons rfl (subG_cons rfl (trivial)))), subH_refl _, rfl, by simp only; rw [h28, show edN xs (g + 1) = g + 1 from if_neg hok.1]⟩
    · have hno : ¬ edOk xs g := of_decide_eq_false h4_0
      have hlt : xs.length < 2 := Classical.byContradiction fun h => hno ⟨h, hg1⟩
      refine Run.one (ok_move rfl rfl) rfl rfl rfl ?_
      iterate 7 refine Run.no (gB rfl rfl rfl rfl) rfl rfl ?_
      refine Run.one (ok_pick rfl rfl rfl) rfl rfl rfl ?_
      refine Run.nil ?_
      refine T_condF rfl rfl ?_
      refine T_skip ?_
      refine T_region ?_
      refine Run.one (ok_ari (z := ((g + 1 : Nat) : Int)) rfl rfl rfl (congrArg some (by omega)) (wrap_i64 (by omega) (by omega))) rfl rfl rfl ?_
      refine Run.one (ok_move rfl rfl) rfl rfl rfl ?_
      refine Run.ghost _ rfl (ghost_drop (List.nil_sublist _)) ?_
      refine Run.nil ?_
      exact ⟨g + 1, (by omega : g + 1 ≤ xs.length), by omega, rfl, subG_cons rfl (subG_cons rfl (subG_cons rfl (subG_cons rfl (trivial)))), subH_refl _, rfl, by simp only; rw [show edN xs (g + 1) = 0 from if_pos hlt, show edN xs g = 0 from if_pos hlt]⟩
  · have k10 := of_decide_eq_false h10
    refine T_exit ?_
    exact ⟨.inr rfl, .inl (by rw [edX_length, show g = xs.length by omega])⟩
theorem edges_spec {xs : List RawP} : PSpec Tryz.prog G 93 [slS 6 pc xs] (fnS 131 [ptrS [slS 6 pc xs]]) := by
  refine fn_spec Tryz.func93 rfl rfl rfl ?_
  refine T_regionS ?_
  refine Run.one (ok_box rfl rfl) rfl rfl rfl ?_
  refine Run.one (ok_assign rfl rfl) rfl rfl rfl ?_
  refine Run.nil ?_
  refine T_regionS ?_
  refine Run.one (ok_makeFunc rfl rfl) rfl rfl rfl ?_
  refine Run.one (ok_assign rfl rfl) rfl rfl rfl ?_
  refine Run.nil ?_
  refine T_ret ?_
  exact ⟨_, [], .one (.tmp rfl), List.nil_sublist _, rfl, rfl⟩
theorem sPairs1_spec {xs : List RawP} : IterSpec Tryz.prog G 92 [ptrS [slS 6 pc xs]] (prX xs) := by
  refine iter_spec Tryz.func92 rfl rfl rfl rfl fun l E hy => ?_
  refine T_regionS ?_
  refine Run.one (ok_box rfl rfl) rfl rfl rfl ?_
  refine Run.nil ?_
  refine T_regionS ?_
  refine Run.one (ok_load rfl rfl) rfl rfl rfl ?_
  refine Run.one (ok_call rfl rfl edges_spec) rfl rfl rfl ?_
  refine Run.nil ?_
  refine T_block ?_
  refine T_rng rfl rfl edges1_spec (fun ss h => edX_ss h) (by decide) rfl
    (fun k _ i => i = ((prA xs.length k 0).length, false))
    (fun e _ i => e = .ret ∧ i.2 = true) rfl ?_ ?_ ?_
  · rintro l1 a ss h i ha rfl
    obtain ⟨han, hl2, rfl⟩ := edX_inv ha
    refine T_region ?_
    refine Run.alloc rfl rfl rfl rfl rfl fun b3 => ?_
    refine Run.store 0 rfl rfl rfl rfl rfl rfl rfl rfl rfl ?_
    refine Run.nil ?_
    refine ⟨rfl, ?_⟩
    refine T_block ?_
    refine T_regionS ?_
    refine Run.one (ok_load rfl rfl) rfl rfl rfl ?_
    refine Run.one (ok_call rfl rfl edges_spec) rfl rfl rfl ?_
    refine Run.nil ?_
    refine T_block ?_
    refine T_rng rfl rfl edges1_spec (fun ss h => edX_ss h) (by decide) rfl
      (fun k h2 i => i = ((prA xs.length a k).length, false) ∧ h2 = ⟨some b3, 75, edC xs a, 0⟩ :: h)
      (fun e _ i => e = .ret ∧ i.2 = true) ⟨rfl, rfl⟩ ?_ ?_ ?_
    · rintro l2 b ss h2 i hb ⟨rfl, rfl⟩
      obtain ⟨hbn, _, rfl⟩ := edX_inv hb
      refine T_region ?_
      refine Run.alloc rfl rfl rfl rfl rfl fun b4 => ?_
      refine Run.store 0 rfl rfl rfl rfl rfl rfl rfl rfl rfl ?_
      refine Run.nil ?_
      refine ⟨rfl, ?_⟩
      refine T_block ?_
      refine T_regionS ?_
      refine Run.one (ok_fieldAddr_eq rfl rfl rfl) rfl rfl rfl ?_
      refine Run.one (ok_load_own 1 rfl rfl rfl rfl) rfl rfl rfl ?_
      refine Run.one (ok_fieldAddr_eq rfl rfl rfl) rfl rfl rfl ?_
      refine Run.one (ok_load_own 0 rfl rfl rfl rfl) rfl rfl rfl ?_
      refine Run.oneB (ok_cmp rfl rfl rfl rfl) rfl rfl rfl (fun h5_4 => ?_) (fun h5_4 => ?_)
      · have k5_4 := of_decide_eq_true h5_4
        refine Run.one (ok_move rfl rfl) rfl rfl rfl ?_
        refine Run.one (ok_load rfl rfl) (gB rfl rfl rfl rfl) rfl rfl ?_
        refine Run.one ((show OpOK _ _ _ _ _ (aggS (edC xs a)) from ok_load_own_agg 1 rfl rfl rfl (by kernel_rfl) rfl)) (gB rfl rfl rfl rfl) rfl rfl ?_
        refine Run.one ((show OpOK _ _ _ _ _ (aggS (edC xs b)) from ok_load_own_agg 0 rfl rfl rfl (by kernel_rfl) rfl)) (gB rfl rfl rfl rfl) rfl rfl ?_
        refine Run.yield rfl hy rfl rfl rfl (prX_get (by omega) hbn) (subL_refl _) (gB rfl rfl rfl rfl) rfl rfl fun y => ?_
        refine Run.one (ok_not rfl rfl) (gB rfl rfl rfl rfl) rfl rfl ?_
        refine Run.one (ok_pick rfl rfl rfl) rfl rfl rfl ?_
        refine Run.ghost _ rfl (ghost_drop (List.sublist_cons_self _ _)) ?_
        refine Run.nil ?_
        refine T_cond rfl rfl (fun h22 => ?_) (fun h22 => ?_)
        · refine T_ret ?_
          exact ⟨rfl, h22⟩
        · refine T_skip ?_
          exact ⟨by rw [h22, prA_succ, if_pos (by omega)]; simp, rfl⟩
      · have k5_4 := of_decide_eq_false h5_4
        refine Run.one (ok_move rfl rfl) rfl rfl rfl ?_
        iterate 5 refine Run.no (gB rfl rfl rfl rfl) rfl rfl ?_
        refine Run.one (ok_pick rfl rfl rfl) rfl rfl rfl ?_
        refine Run.ghost _ rfl (ghost_drop (List.sublist_cons_self _ _)) ?_
        refine Run.nil ?_
        refine T_condF rfl rfl ?_
        refine T_skip ?_
        exact ⟨by rw [prA_succ, if_neg (by omega)], rfl⟩
    · rintro h2 i D ⟨rfl, rfl⟩
      exact (show (_, false) = (_, false) by rw [edX_length, show edN xs xs.length = xs.length from if_neg hl2, prA_next])
    · rintro h2 i D e c hc ⟨rfl, hi⟩; exact ⟨rfl, hi⟩
  · rintro h i D rfl
    exact ⟨.inr rfl, .inl (by rw [edX_length, prX_length]; unfold edN; split; rw [prs_small (by assumption)]; rfl; rw [prA_all])⟩
  · rintro h i D e c hc ⟨rfl, hi⟩; exact ⟨.inl rfl, .inr hi⟩
theorem sPairs_spec {xs : List RawP} : PSpec Tryz.prog G 49 [slS 6 pc xs] (fnS 92 [ptrS [slS 6 pc xs]]) := by
  refine fn_spec Tryz.func49 rfl rfl rfl ?_
  refine T_regionS ?_
  refine Run.one (ok_box rfl rfl) rfl rfl rfl ?_
  refine Run.one (ok_assign rfl rfl) rfl rfl rfl ?_
  refine Run.nil ?_
  refine T_regionS ?_
  refine Run.one (ok_makeFunc rfl rfl) rfl rfl rfl ?_
  refine Run.one (ok_assign rfl rfl) rfl rfl rfl ?_
  refine Run.nil ?_
  refine T_ret ?_
  exact ⟨_, [], .one (.tmp rfl), List.nil_sublist _, rfl, rfl⟩
theorem simple_spec [Tab G] {xs : List RawP} {k : Nat} (hk : 0 < k) (hl : ∀ p ∈ xs, PtOk k p) (hs : 100000 * k + 100000 ≤ cap) : PSpec Tryz.prog G 13 [slS 6 pc xs] (boolS (simB (pvs2 xs))) := by
  refine fn_spec Tryz.func13 rfl rfl rfl ?_
  refine T_regionS ?_
  refine Run.one (ok_box rfl rfl) rfl rfl rfl ?_
  refine Run.one (ok_assign rfl rfl) rfl rfl rfl ?_
  refine Run.nil ?_
  refine T_scope ?_
  refine T_regionS ?_
  refine Run.one (ok_load rfl rfl) rfl rfl rfl ?_
  refine Run.one (ok_len rfl rfl) rfl rfl rfl ?_
  refine Run.one ((ok_cmp rfl rfl rfl rfl).sub (bool_eq (c := simT xs 0) (by rw [simT_zero]; exact decide_eq_decide.2 (by omega)))) rfl rfl rfl ?_
  refine Run.alloc rfl rfl rfl rfl rfl fun b3 => ?_
  refine Run.store 0 rfl rfl rfl rfl rfl rfl rfl rfl rfl ?_
  refine Run.nil ?_
  refine T_seq ?_
  refine T_label ?_
  refine T_seqQ (K := fun S1 => ∃ D, Ent S1 ⟨59, [(3, eqS (.pointer (some ⟨b3, 0, none⟩)))], [⟨some b3, 4, [boolS (simB (pvs2 xs))], 0⟩], D, (0, false)⟩) ?_ ?_
  · refine T_len 7 rfl fun la => ?_
    unfold big at la
    refine T_regionS ?_
    refine Run.one (ok_load rfl rfl) rfl rfl rfl ?_
    refine Run.one (ok_call rfl rfl sPairs_spec) rfl rfl rfl ?_
    refine Run.nil ?_
    refine T_block ?_
    refine T_rng rfl rfl sPairs1_spec (fun ss h => prX_ss h) (by decide) rfl
      (fun m h i => i = (0, false) ∧ h = [⟨some b3, 4, [boolS (simT xs m)], 0⟩])
      (fun e h i => e = .exit 0 ∧ i = (0, false) ∧ ∃ m, simT xs m = false ∧ h = [⟨some b3, 4, [boolS false], 0⟩]) ⟨rfl, rfl⟩ ?_ ?_ ?_
    · rintro l m ss h i hm ⟨rfl, rfl⟩
      obtain ⟨a, b, hab, hlt, hbn, rfl⟩ := prX_inv hm
      have han : a < xs.length := by omega
      have hsu := simT_succ hab
      rw [prOk_raw han hbn] at hsu
      refine T_regionS ?_
      refine Run.alloc rfl rfl rfl rfl rfl fun b4 => ?_
      refine Run.store 0 rfl rfl rfl rfl rfl rfl rfl rfl rfl ?_
      refine Run.nil ?_
      refine T_region ?_
      refine Run.alloc rfl rfl rfl rfl rfl fun b5 => ?_
      refine Run.store 0 rfl rfl rfl rfl rfl rfl rfl rfl rfl ?_
      refine Run.nil ?_
      refine ⟨rfl, ?_⟩
      refine T_block ?_
      refine T_regionS ?_
      refine Run.one (ok_assign rfl rfl) rfl rfl rfl ?_
      refine Run.nil ?_
      refine T_seqQ (K := fun S1 => Ent S1 ⟨59, [(6, intS .i8 (wantF xs.length a b)), (5, eqS (.pointer (some ⟨b5, 0, none⟩))), (4, eqS (.pointer (some ⟨b4, 0, none⟩))), (3, eqS (.pointer (some ⟨b3, 0, none⟩))), (1, ptrS [slS 6 pc xs])], [⟨some b5, 75, edC xs b, 0⟩, ⟨some b4, 75, edC xs a, 0⟩, ⟨some b3, 4, [boolS (simT xs m)], 0⟩], [], (0, false)⟩) ?_ ?_
      · refine T_seqQ (K := fun S1 => ∃ w : Bool, (w = true ↔ (b = a + 1 ∨ (a = 0 ∧ b + 1 = xs.length))) ∧ Ent S1 ⟨59, [(32, boolS w), (6, intS .i8 0), (5, eqS (.pointer (some ⟨b5, 0, none⟩))), (4, eqS (.pointer (some ⟨b4, 0, none⟩))), (3, eqS (.pointer (some ⟨b3, 0, none⟩))), (1, ptrS [slS 6 pc xs])], [⟨some b5, 75, edC xs b, 0⟩, ⟨some b4, 75, edC xs a, 0⟩, ⟨some b3, 4, [boolS (simT xs m)], 0⟩], [], (0, false)⟩) ?_ ?_
        · refine T_region ?_
          refine Run.one (ok_fieldAddr_eq rfl rfl rfl) rfl rfl rfl ?_
          refine Run.one (ok_load_own 0 rfl rfl rfl rfl) rfl rfl rfl ?_
          refine Run.one (ok_fieldAddr_eq rfl rfl rfl) rfl rfl rfl ?_
          refine Run.one (ok_load_own 1 rfl rfl rfl rfl) rfl rfl rfl ?_
          refine Run.one (ok_ari (z := ((a + 1 : Nat) : Int)) rfl rfl rfl (congrArg some (by omega)) (wrap_i64 (by omega) (by omega))) rfl rfl rfl ?_
          refine Run.oneB (ok_cmp rfl rfl rfl rfl) rfl rfl rfl (fun h6_5 => ?_) (fun h6_5 => ?_)
          · have k6_5 := beq_iff_eq.1 h6_5
            refine Run.one (ok_move rfl rfl) rfl rfl rfl ?_
            iterate 4 refine Run.no (gB rfl rfl rfl rfl) rfl rfl ?_
            iterate 6 refine Run.no (gU rfl rfl rfl) rfl rfl ?_
            refine Run.no (gB rfl rfl rfl rfl) rfl rfl ?_
            refine Run.one (ok_pick rfl rfl rfl) rfl rfl rfl ?_
            refine Run.nil ?_
            exact ⟨true, ⟨fun _ => .inl (by omega), fun _ => rfl⟩, ent_h (subG_cons rfl (subG_cons rfl (subG_cons rfl (subG_cons rfl (subG_cons rfl (subG_cons rfl (trivial))))))) rfl⟩
          · have k6_5 := beq_eq_false_iff_ne.1 h6_5
            refine Run.one (ok_move rfl rfl) rfl rfl rfl ?_
            refine Run.one (ok_fieldAddr_eq rfl rfl rfl) (gB rfl rfl rfl rfl) rfl rfl ?_
            refine Run.one (ok_load_own 1 rfl rfl rfl rfl) (gB rfl rfl rfl rfl) rfl rfl ?_
            refine Run.oneB (ok_cmp rfl rfl rfl rfl) (gB rfl rfl rfl rfl) rfl rfl (fun h6_9 => ?_) (fun h6_9 => ?_)
            · have k6_9 := beq_iff_eq.1 h6_9
              refine Run.one (ok_move rfl rfl) (gB rfl rfl rfl rfl) rfl rfl ?_
              refine Run.one (ok_fieldAddr_eq rfl rfl rfl) (gB rfl rfl rfl rfl) rfl rfl ?_
              refine Run.one (ok_load_own 0 rfl rfl rfl rfl) (gB rfl rfl rfl rfl) rfl rfl ?_
              refine Run.one (ok_load rfl rfl) (gB rfl rfl rfl rfl) rfl rfl ?_
              refine Run.one (ok_len rfl rfl) (gB rfl rfl rfl rfl) rfl rfl ?_
              refine Run.one (ok_ari (z := ((xs.length - 1 : Nat) : Int)) rfl rfl rfl (congrArg some (by omega)) (wrap_i64 (by omega) (by omega))) (gB rfl rfl rfl rfl) rfl rfl ?_
              refine Run.one (ok_cmp rfl rfl rfl rfl) (gB rfl rfl rfl rfl) rfl rfl ?_
              refine Run.one (ok_pick rfl rfl rfl) (gB rfl rfl rfl rfl) rfl rfl ?_
              refine Run.one (ok_pick rfl rfl rfl) rfl rfl rfl ?_
              refine Run.nil ?_
              exact ⟨decide ((b : Int) = ((xs.length - 1 : Nat) : Int)), (by rw [decide_eq_true_iff]; omega), ent_h (subG_cons rfl (subG_cons rfl (subG_cons rfl (subG_cons rfl (subG_cons rfl (subG_cons rfl (trivial))))))) rfl⟩
            · have k6_9 := beq_eq_false_iff_ne.1 h6_9
              refine Run.one (ok_move rfl rfl) (gB rfl rfl rfl rfl) rfl rfl ?_
              iterate 6 refine Run.no (gB rfl rfl rfl rfl) rfl rfl ?_
              refine Run.one (ok_pick rfl rfl rfl) (gB rfl rfl rfl rfl) rfl rfl ?_
              refine Run.one (ok_pick rfl rfl rfl) rfl rfl rfl ?_
              refine Run.nil ?_
              exact ⟨false, ⟨fun h => (by cases h), fun h => by omega⟩, ent_h (subG_cons rfl (subG_cons rfl (subG_cons rfl (subG_cons rfl (subG_cons rfl (subG_cons rfl (trivial))))))) rfl⟩
        · rintro S1 ⟨w, hw, hS1⟩
          refine T_pre hS1 ?_
          refine T_cond rfl rfl (fun h32 => ?_) (fun h32 => ?_)
          · refine T_region ?_
            refine Run.one (ok_assign rfl rfl) rfl rfl rfl ?_
            refine Run.nil ?_
            exact (by rw [show wantF xs.length a b = 1 from if_pos (hw.1 h32)]; exact ent_h (subG_cons rfl (subG_cons rfl (subG_cons rfl (subG_cons rfl (subG_cons rfl (trivial)))))) rfl)
          · refine T_skip ?_
            exact (by rw [show wantF xs.length a b = 0 from if_neg (fun x => by rw [hw.2 x] at h32; cases h32)]; exact ent_h (subG_cons rfl (subG_cons rfl (subG_cons rfl (subG_cons rfl (subG_cons rfl (trivial)))))) rfl)
      · intro S1 hS1
        refine T_pre hS1 ?_
        refine T_seqQ (K := fun S1 => Ent S1 ⟨59, [(3, eqS (.pointer (some ⟨b3, 0, none⟩))), (1, ptrS [slS 6 pc xs])], [⟨some b3, 4, [boolS (simT xs (m + 1))], 0⟩], [], (0, false)⟩) ?_ ?_
        · refine T_region ?_
          refine Run.oneB (ok_load_own 2 rfl rfl rfl rfl) rfl rfl rfl (fun h8_0 => ?_) (fun h8_0 => ?_)
          · refine Run.one (ok_move rfl rfl) rfl rfl rfl ?_
            refine Run.one (ok_fieldAddr_eq rfl rfl rfl) (gB rfl rfl rfl rfl) rfl rfl ?_
            refine Run.one ((show OpOK _ _ _ _ _ (aggS (pc (ra xs a))) from ok_load_own_agg 1 rfl rfl rfl (by kernel_rfl) rfl)) (gB rfl rfl rfl rfl) rfl rfl ?_
            refine Run.one (ok_fieldAddr_eq rfl rfl rfl) (gB rfl rfl rfl rfl) rfl rfl ?_
            refine Run.one ((show OpOK _ _ _ _ _ (aggS (pc (ra xs b))) from ok_load_own_agg 0 rfl rfl rfl (by kernel_rfl) rfl)) (gB rfl rfl rfl rfl) rfl rfl ?_
            refine Run.one (ok_call rfl rfl (sameR (p := ra xs a) (q := ra xs b) hk (hl _ (getD_mem han)) (hl _ (getD_mem hbn)) (by omega))) (gB rfl rfl rfl rfl) rfl rfl ?_
            refine Run.one (ok_not rfl rfl) (gB rfl rfl rfl rfl) rfl rfl ?_
            refine Run.oneB (ok_pick rfl rfl rfl) rfl rfl rfl (fun h8_8 => ?_) (fun h8_8 => ?_)
            · refine Run.one (ok_move rfl rfl) rfl rfl rfl ?_
              refine Run.one (ok_fieldAddr_eq rfl rfl rfl) (gB rfl rfl rfl rfl) rfl rfl ?_
              refine Run.one ((show OpOK _ _ _ _ _ (aggS (pc (ra xs a))) from ok_load_own_agg 1 rfl rfl rfl (by kernel_rfl) rfl)) (gB rfl rfl rfl rfl) rfl rfl ?_
              refine Run.one (ok_fieldAddr_eq rfl rfl rfl) (gB rfl rfl rfl rfl) rfl rfl ?_
              refine Run.one ((show OpOK _ _ _ _ _ (aggS (pc (rb xs a))) from ok_load_own_agg 1 rfl rfl rfl (by kernel_rfl) rfl)) (gB rfl rfl rfl rfl) rfl rfl ?_
              refine Run.one (ok_fieldAddr_eq rfl rfl rfl) (gB rfl rfl rfl rfl) rfl rfl ?_
              refine Run.one ((show OpOK _ _ _ _ _ (aggS (pc (ra xs b))) from ok_load_own_agg 0 rfl rfl rfl (by kernel_rfl) rfl)) (gB rfl rfl rfl rfl) rfl rfl ?_
              refine Run.one (ok_fieldAddr_eq rfl rfl rfl) (gB rfl rfl rfl rfl) rfl rfl ?_
              refine Run.one ((show OpOK _ _ _ _ _ (aggS (pc (rb xs b))) from ok_load_own_agg 0 rfl rfl rfl (by kernel_rfl) rfl)) (gB rfl rfl rfl rfl) rfl rfl ?_
              refine Run.one (ok_call rfl rfl (segs_spec (a := ra xs a) (b := rb xs a) (c := ra xs b) (d := rb xs b) hk (hl _ (getD_mem han)) (hl _ (getD_mem (Nat.mod_lt _ (by omega)))) (hl _ (getD_mem hbn)) (hl _ (getD_mem (Nat.mod_lt _ (by omega)))) hs)) (gB rfl rfl rfl rfl) rfl rfl ?_
              refine Run.one ((show OpOK _ _ _ _ _ (intS .i8 (mtF (fromF (pv (ra xs a)) (pv (rb xs a))) (fromF (pv (ra xs b)) (pv (rb xs b)))).1) from ok_field (ft := 76) Tryz.underlying79 rfl rfl rfl rfl rfl)) (gB rfl rfl rfl rfl) rfl rfl ?_
              refine Run.one (ok_move rfl rfl) (gB rfl rfl rfl rfl) rfl rfl ?_
              refine Run.one (ok_cmp rfl rfl rfl rfl) (gB rfl rfl rfl rfl) rfl rfl ?_
              refine Run.one (ok_pick rfl rfl rfl) rfl rfl rfl ?_
              refine Run.store 2 rfl rfl rfl rfl rfl rfl rfl rfl rfl ?_
              refine Run.ghost _ rfl (ghost_drop (List.Sublist.cons _ (List.Sublist.cons _ (List.Sublist.refl _)))) ?_
              refine Run.nil ?_
              exact (by rw [hsu, h8_0, h8_8]; exact ent_h (subG_cons rfl (subG_cons rfl (trivial))) rfl)
            · refine Run.one (ok_move rfl rfl) rfl rfl rfl ?_
              iterate 12 refine Run.no (gB rfl rfl rfl rfl) rfl rfl ?_
              refine Run.one (ok_pick rfl rfl rfl) rfl rfl rfl ?_
              refine Run.store 2 rfl rfl rfl rfl rfl rfl rfl rfl rfl ?_
              refine Run.ghost _ rfl (ghost_drop (List.Sublist.cons _ (List.Sublist.cons _ (List.Sublist.refl _)))) ?_
              refine Run.nil ?_
              exact (by rw [hsu, h8_0, h8_8]; exact ent_h (subG_cons rfl (subG_cons rfl (trivial))) rfl)
          · refine Run.one (ok_move rfl rfl) rfl rfl rfl ?_
            iterate 6 refine Run.no (gB rfl rfl rfl rfl) rfl rfl ?_
            refine Run.one (ok_pick rfl rfl rfl) rfl rfl rfl ?_
            refine Run.one (ok_move rfl rfl) rfl rfl rfl ?_
            iterate 12 refine Run.no (gB rfl rfl rfl rfl) rfl rfl ?_
            refine Run.one (ok_pick rfl rfl rfl) rfl rfl rfl ?_
            refine Run.store 2 rfl rfl rfl rfl rfl rfl rfl rfl rfl ?_
            refine Run.ghost _ rfl (ghost_drop (List.Sublist.cons _ (List.Sublist.cons _ (List.Sublist.refl _)))) ?_
            refine Run.nil ?_
            exact (by rw [hsu, h8_0]; exact ent_h (subG_cons rfl (subG_cons rfl (trivial))) rfl)
        · intro S1 hS1
          refine T_pre hS1 ?_
          refine T_regionS ?_
          refine Run.one (ok_load_own 0 rfl rfl rfl rfl) rfl rfl rfl ?_
          refine Run.one (ok_not rfl rfl) rfl rfl rfl ?_
          refine Run.nil ?_
          refine T_cond rfl rfl (fun h57 => ?_) (fun h57 => ?_)
          · refine T_exit ?_
            exact ⟨rfl, rfl, m + 1, by simpa using h57, by rw [show simT xs (m + 1) = false by simpa using h57]⟩
          · refine T_skip ?_
            exact ⟨rfl, rfl⟩
    · rintro h i D ⟨rfl, rfl⟩
      exact ⟨_, by rw [prX_length, simT_all]; exact ent_h (subG_cons rfl (trivial)) rfl⟩
    · rintro h i D e c hc ⟨rfl, rfl, m, hm, rfl⟩
      show ∃ D, _
      exact ⟨_, by rw [simT_false hm]; exact ent_h (subG_cons rfl (trivial)) rfl⟩
  · rintro S1 ⟨D, hS1⟩
    refine T_pre hS1 ?_
    refine T_regionS ?_
    refine Run.one (ok_load_own 0 rfl rfl rfl rfl) rfl rfl rfl ?_
    refine Run.one (ok_assign rfl rfl) rfl rfl rfl ?_
    refine Run.nil ?_
    refine T_ret ?_
    exact ⟨_, [], .one (.tmp rfl), List.nil_sublist _, rfl, rfl⟩
end Go.Proofs
