/- straitref12: what is too great; what the document says of four texts. -/
import Derived.Test.YtcdlcfihjfhkgaaGreatDoorSce
namespace Go.Proofs
open Go Go.Sv Num
variable {G : Imm}
def bigR (l : List RP) : Prop := 20 < l.length ∨ ∃ p ∈ l, 6 < psz p
def bigQ (q : RP × RP) : Prop := 6 < psz q.1 ∨ 6 < psz q.2
def Gr12 (s : Sc) : Prop := bigR s.1 ∨ 20 < s.2.1.length ∨ (∃ l ∈ s.2.1, bigR l) ∨ 20 < s.2.2.length ∨ ∃ q ∈ s.2.2, bigQ q
noncomputable instance gr12_dec {s : Sc} : Decidable (Gr12 s) := Classical.propDecidable _
end Go.Proofs
/- straitlaw12: what the document says of four texts. -/
namespace Go.Proofs
open Go Go.Sv Num
variable {G : Imm}
def rawR (l : List QP) : List RP := l.map rawP
def raw2 (q : QP × QP) : RP × RP := (rawP q.1, rawP q.2)
def rawS (s : QS) : Sc := (rawR s.1, s.2.1.map rawR, s.2.2.map raw2)
theorem map_id_of {α : Type} {f : α → α} (h : ∀ x, f x = x) (l : List α) : l.map f = l := (List.map_congr_left fun x _ => h x).trans (List.map_id _)
theorem nrm_raw (s : QS) : nrm (rawS s) = s := by
  unfold nrm rawS
  refine Prod.ext (map_raw _) (Prod.ext ?_ ?_)
  · show (s.2.1.map rawR).map pvs = s.2.1
    rw [List.map_map]; exact map_id_of (fun l => map_raw l) _
  · show (s.2.2.map raw2).map pv2 = s.2.2
    rw [List.map_map]; exact map_id_of (fun q => by show (pv (rawP q.1), pv (rawP q.2)) = q; rw [rawP_pv, rawP_pv]) _
theorem qs_sc {s : QS} (I : Imm) (v : Value) (h : (aggS (qsC s)).den I v) : (aggS (scC (rawS s))).den I v := by
  obtain ⟨xs, hv, hd, h1⟩ := h
  obtain ⟨x, y, z, rfl, hx, hy, hz⟩ := dens_three hd
  refine ⟨_, hv, dens_cons (sl_same rawP (fun _ => rfl) hx) (dens_cons (sl_conv rawR (fun l _ i r hr => ?_) hy) (dens_cons (sl_same raw2 (fun _ => rfl) hz) dens_nil)), h1⟩
  cases i with
  | zero => cases hr; exact ⟨_, rfl, fun v h => sl_same rawP (fun _ => rfl) h⟩
  | succ i => cases hr
def qsPts (s : QS) : List QP := s.1 ++ (s.2.1.flatten ++ s.2.2.flatMap fun q => [q.1, q.2])
theorem scPts_eq (s : Sc) : scPts s = s.1 ++ (s.2.1.flatten ++ s.2.2.flatMap fun q => [q.1, q.2]) := by
  unfold scPts scL
  rw [List.flatMap_cons, List.flatMap_append, List.flatMap_map, List.flatMap_map]
  show s.1 ++ (s.2.1.flatMap id ++ _) = _
  rw [List.flatMap_id]
theorem raw_flat (l : List (List QP)) : (l.map rawR).flatten = rawR l.flatten := by
  induction l with
  | nil => rfl
  | cons x l ih => rw [List.map_cons, List.flatten_cons, ih, List.flatten_cons]; unfold rawR; rw [List.map_append]
theorem raw_flat2 (l : List (QP × QP)) : ((l.map raw2).flatMap fun q => [q.1, q.2]) = rawR (l.flatMap fun q => [q.1, q.2]) := by
  induction l with
  | nil => rfl
  | cons x l ih => rw [List.map_cons, List.flatMap_cons, ih, List.flatMap_cons]; unfold rawR; rw [List.map_append]; rfl
theorem scPts_raw (s : QS) : scPts (rawS s) = rawR (qsPts s) := by
  rw [scPts_eq]
  unfold rawS qsPts
  rw [raw_flat, raw_flat2]; unfold rawR; rw [List.map_append, List.map_append]
theorem pts_raw (s : QS) : (scPts (rawS s)).map pv = qsPts s := by rw [scPts_raw]; exact map_raw _
theorem raw_scok {s : QS} {k n : Nat} (hk : 0 < k) (hp : ∀ p ∈ qsPts s, Bq p.1 k ∧ Bq p.2 k) (hl : (qsPts s).length ≤ n) (hr : s.2.1.length + s.2.2.length + 1 ≤ n) : ScOk (rawS s) k n := by
  refine ⟨hk, fun x hx p hpx => ?_, by rw [scPts_raw]; unfold rawR; rwa [List.length_map], by rw [scL_len]; unfold rawS; simpa using hr⟩
  have : p ∈ scPts (rawS s) := List.mem_flatMap.2 ⟨x, hx, hpx⟩
  rw [scPts_raw] at this
  obtain ⟨q, hq, rfl⟩ := List.mem_map.1 this
  exact raw_ok (hp q hq)
instance dqs : DecidableEq (List (Rat × Rat) × List (List (Rat × Rat)) × List ((Rat × Rat) × (Rat × Rat))) := instDecidableEqProd
abbrev S0 : QS := ([(0, 0), (1, 0), (0, 1)], [], [])
theorem dec1 : Lib.decDigits 1 = [49] := by rw [Lib.decDigits, dif_pos (by decide)]; rfl
theorem txt0 : txtF 0 = [48] := (txtF_nat 0).trans dec_zero
theorem txt1 : txtF 1 = [49] := (txtF_nat 1).trans dec1
theorem nd0 : nD 0 = 1 := by show max (Lib.nDigits 0) (Lib.nDigits 1) = 1; rw [Lib.nDigits_small (by decide), Lib.nDigits_small (by decide)]; rfl
theorem nd1 : nD 1 = 1 := by show max (Lib.nDigits 1) (Lib.nDigits 1) = 1; rw [Lib.nDigits_small (by decide)]; rfl
theorem wk12_ok : ScOk (rawS S0) 1 3 := raw_scok (by decide) (fun p hp => by
  have h0 : Bq 0 1 := bq_zero
  have h1 : Bq 1 1 := bq_one
  simp [qsPts] at hp
  rcases hp with rfl | rfl | rfl
  · exact ⟨h0, h0⟩
  · exact ⟨h1, h0⟩
  · exact ⟨h0, h1⟩) (by decide) (by decide)
theorem wk12_txt : scT (rawS S0) = [114, 111, 98, 111, 116, 32, 48, 32, 48, 32, 49, 32, 48, 32, 48, 32, 49, 10] := by
  have h : scT (rawS S0) = lnT wRob (pvs (rawR S0.1)) := by show [(wRob, rawR S0.1)].flatMap lnX = _; rw [List.flatMap_cons, List.flatMap_nil, List.append_nil]; rfl
  rw [h, show pvs (rawR S0.1) = S0.1 from map_raw _]
  unfold lnT rowW
  simp only [List.flatMap_cons, List.flatMap_nil, ptT, txt0, txt1]
  rfl
theorem wk12_dig : ((scPts (rawS S0)).map pv).foldl (fun (n : Nat) (p : Rat × Rat) => max (max n (nD p.1)) (nD p.2)) 0 = 1 := by
  rw [pts_raw]
  show max (max (max (max (max (max 0 (nD 0)) (nD 0)) (nD 1)) (nD 0)) (nD 0)) (nD 1) = 1
  rw [nd0, nd1]; rfl
theorem wakes12_spec [Tab G] [Tab10 G] [MaxLen G] : PSpec Tryz.prog G 33 [] (boolS true) := by
  have hp1 := parse12_spec (G := G) (t := [114, 111, 98, 111, 116, 32, 48, 32, 48, 32, 49, 32, 48, 32, 48, 32, 49, 10]) (by decide)
  rw [show parseF [114, 111, 98, 111, 116, 32, 48, 32, 48, 32, 49, 32, 48, 32, 48, 32, 49, 10] = (S0, 0) by decide +kernel] at hp1
  have hp2 := parse12_spec (G := G) (t := [114, 111, 98, 111, 116, 32, 48, 32, 48, 32, 49, 10]) (by decide)
  rw [show parseF [114, 111, 98, 111, 116, 32, 48, 32, 48, 32, 49, 10] = (([], [], []), 1) by decide +kernel] at hp2
  have hp3 := parse12_spec (G := G) (t := [114, 111, 98, 111, 116, 32, 48, 32, 49, 47, 48, 10]) (by decide)
  rw [show parseF [114, 111, 98, 111, 116, 32, 48, 32, 49, 47, 48, 10] = (([], [], []), 2) by decide +kernel] at hp3
  have hp4 := parse12_spec (G := G) (t := [114, 111, 98, 111, 116, 32, 48, 32, 49, 50, 51, 52, 53, 54, 55, 10]) (by decide)
  rw [show parseF [114, 111, 98, 111, 116, 32, 48, 32, 49, 50, 51, 52, 53, 54, 55, 10] = (([], [], []), 3) by decide +kernel] at hp4
  have hpr := (sprint_spec (G := G) wk12_ok (by decide) (by decide)).args (args' := [aggS (qsC S0)]) ⟨qs_sc, trivial⟩
  rw [wk12_txt] at hpr
  have hdg := (sdigits_spec (G := G) wk12_ok (by decide) (by decide)).args (args' := [aggS (qsC S0)]) ⟨qs_sc, trivial⟩
  rw [wk12_dig] at hdg
  have hpt := (points_spec (G := G) wk12_ok (by decide) (by decide)).args (args' := [aggS (qsC S0)]) ⟨qs_sc, trivial⟩
  rw [pts_raw] at hpt
  refine fn_spec Tryz.func33 rfl rfl rfl ?_
  refine T_regionS ?_
  refine Run.one (ok_assign rfl rfl) rfl rfl rfl ?_
  refine Run.nil ?_
  refine T_regionS ?_
  refine Run.one (ok_call rfl rfl hp1) rfl rfl rfl ?_
  refine Run.one (ok_move rfl rfl) rfl rfl rfl ?_
  iterate 2 refine Run.one (ok_extract rfl rfl rfl) rfl rfl rfl ?_
  refine Run.alloc rfl rfl rfl rfl rfl fun b1 => ?_
  refine Run.store 0 rfl rfl rfl rfl rfl rfl rfl rfl rfl ?_
  refine Run.one (ok_assign rfl rfl) rfl rfl rfl ?_
  refine Run.nil ?_
  refine T_regionS ?_
  refine Run.one (ok_call rfl rfl hp2) rfl rfl rfl ?_
  refine Run.one (ok_move rfl rfl) rfl rfl rfl ?_
  iterate 2 refine Run.one (ok_extract rfl rfl rfl) rfl rfl rfl ?_
  refine Run.alloc rfl rfl rfl rfl rfl fun b3 => ?_
  refine Run.store 0 rfl rfl rfl rfl rfl rfl rfl rfl rfl ?_
  refine Run.one (ok_assign rfl rfl) rfl rfl rfl ?_
  refine Run.nil ?_
  refine T_regionS ?_
  refine Run.one (ok_call rfl rfl hp3) rfl rfl rfl ?_
  refine Run.one (ok_move rfl rfl) rfl rfl rfl ?_
  iterate 2 refine Run.one (ok_extract rfl rfl rfl) rfl rfl rfl ?_
  refine Run.alloc rfl rfl rfl rfl rfl fun b5 => ?_
  refine Run.store 0 rfl rfl rfl rfl rfl rfl rfl rfl rfl ?_
  refine Run.one (ok_assign rfl rfl) rfl rfl rfl ?_
  refine Run.nil ?_
  refine T_regionS ?_
  refine Run.one (ok_call rfl rfl hp4) rfl rfl rfl ?_
  refine Run.one (ok_move rfl rfl) rfl rfl rfl ?_
  iterate 2 refine Run.one (ok_extract rfl rfl rfl) rfl rfl rfl ?_
  refine Run.alloc rfl rfl rfl rfl rfl fun b7 => ?_
  refine Run.store 0 rfl rfl rfl rfl rfl rfl rfl rfl rfl ?_
  refine Run.one (ok_assign rfl rfl) rfl rfl rfl ?_
  refine Run.nil ?_
  refine T_regionS ?_
  refine Run.one (ok_move rfl rfl) rfl rfl rfl ?_
  refine Run.one ((ok_cmp rfl rfl rfl rfl).sub (bool_eq (c := true) (rfl))) rfl rfl rfl ?_
  refine Run.one (ok_move rfl rfl) rfl rfl rfl ?_
  refine Run.one (ok_fieldAddr_eq rfl rfl rfl) (gB rfl rfl rfl rfl) rfl rfl ?_
  refine Run.one (ok_load_own 3 rfl rfl rfl rfl) (gB rfl rfl rfl rfl) rfl rfl ?_
  refine Run.one (ok_len rfl rfl) (gB rfl rfl rfl rfl) rfl rfl ?_
  refine Run.one ((ok_cmp rfl rfl rfl rfl).sub (bool_eq (c := true) (rfl))) (gB rfl rfl rfl rfl) rfl rfl ?_
  refine Run.one (ok_pick rfl rfl rfl) rfl rfl rfl ?_
  refine Run.one (ok_move rfl rfl) rfl rfl rfl ?_
  refine Run.one (ok_move rfl rfl) (gB rfl rfl rfl rfl) rfl rfl ?_
  refine Run.one ((ok_cmp rfl rfl rfl rfl).sub (bool_eq (c := true) (rfl))) (gB rfl rfl rfl rfl) rfl rfl ?_
  refine Run.one (ok_pick rfl rfl rfl) rfl rfl rfl ?_
  refine Run.one (ok_move rfl rfl) rfl rfl rfl ?_
  refine Run.one (ok_move rfl rfl) (gB rfl rfl rfl rfl) rfl rfl ?_
  refine Run.one ((ok_cmp rfl rfl rfl rfl).sub (bool_eq (c := true) (rfl))) (gB rfl rfl rfl rfl) rfl rfl ?_
  refine Run.one (ok_pick rfl rfl rfl) rfl rfl rfl ?_
  refine Run.one (ok_move rfl rfl) rfl rfl rfl ?_
  refine Run.one (ok_move rfl rfl) (gB rfl rfl rfl rfl) rfl rfl ?_
  refine Run.one ((ok_cmp rfl rfl rfl rfl).sub (bool_eq (c := true) (rfl))) (gB rfl rfl rfl rfl) rfl rfl ?_
  refine Run.one (ok_pick rfl rfl rfl) rfl rfl rfl ?_
  refine Run.one (ok_move rfl rfl) rfl rfl rfl ?_
  refine Run.one ((show OpOK _ _ _ _ _ (aggS (qsC S0)) from ok_load_own_agg 3 rfl rfl rfl rfl rfl)) (gB rfl rfl rfl rfl) rfl rfl ?_
  refine Run.one (ok_call rfl rfl hpr) (gB rfl rfl rfl rfl) rfl rfl ?_
  refine Run.one ((ok_cmp_str rfl rfl rfl rfl).sub (bool_eq (c := true) (rfl))) (gB rfl rfl rfl rfl) rfl rfl ?_
  refine Run.one (ok_pick rfl rfl rfl) rfl rfl rfl ?_
  refine Run.one (ok_move rfl rfl) rfl rfl rfl ?_
  refine Run.one ((show OpOK _ _ _ _ _ (aggS (qsC S0)) from ok_load_own_agg 3 rfl rfl rfl rfl rfl)) (gB rfl rfl rfl rfl) rfl rfl ?_
  refine Run.one (ok_call rfl rfl hdg) (gB rfl rfl rfl rfl) rfl rfl ?_
  refine Run.one ((ok_cmp rfl rfl rfl rfl).sub (bool_eq (c := true) (rfl))) (gB rfl rfl rfl rfl) rfl rfl ?_
  refine Run.one (ok_pick rfl rfl rfl) rfl rfl rfl ?_
  refine Run.one (ok_move rfl rfl) rfl rfl rfl ?_
  refine Run.one ((show OpOK _ _ _ _ _ (aggS (qsC S0)) from ok_load_own_agg 3 rfl rfl rfl rfl rfl)) (gB rfl rfl rfl rfl) rfl rfl ?_
  refine Run.one (ok_call rfl rfl hpt) (gB rfl rfl rfl rfl) rfl rfl ?_
  refine Run.one (ok_len rfl rfl) (gB rfl rfl rfl rfl) rfl rfl ?_
  refine Run.one ((ok_cmp rfl rfl rfl rfl).sub (bool_eq (c := true) (rfl))) (gB rfl rfl rfl rfl) rfl rfl ?_
  refine Run.one (ok_pick rfl rfl rfl) rfl rfl rfl ?_
  refine Run.one (ok_assign rfl rfl) rfl rfl rfl ?_
  refine Run.nil ?_
  refine T_ret ?_
  exact ⟨_, [], .one (.tmp rfl), List.nil_sublist _, rfl, rfl⟩
end Go.Proofs
/- The law SceneParts, on the facts. -/
namespace Go.Proofs
open Go Go.Sv Num
variable {G : Imm}
abbrev LimP (p : RP) : Prop := (Lim p.1.2.1 ∧ Lim p.1.2.2) ∧ Lim p.2.2.1 ∧ Lim p.2.2.2
structure ScLim (s : Sc) : Prop where
  rob : ∀ p ∈ s.1, LimP p
  obs : ∀ l ∈ s.2.1, ∀ p ∈ l, LimP p
  que : ∀ q ∈ s.2.2, LimP q.1 ∧ LimP q.2
theorem ptOk_of {p : RP} (h : LimP p) (hs : ¬ 6 < psz p) : PtOk 6 p := by
  unfold psz at hs
  exact ⟨⟨h.1.1, h.1.2, by omega, by omega⟩, h.2.1, h.2.2, by omega, by omega⟩
theorem nil_sl0 {α : Type} {st : Nat} {f : α → List SV} {I : Imm} {v : Value} (h : (eqS (.slice none 0 0)).den I v) : (slS st f []).den I v := by
  rw [show v = .slice none 0 0 from h]; exact ⟨none, 0, rfl, Nat.le_refl _, Nat.zero_le _, .inl rfl⟩
theorem sc_rob {l : List RP} (I : Imm) (v : Value) (h : (aggS [slS 6 pc l, eqS (.slice none 0 0), eqS (.slice none 0 0)]).den I v) : (aggS (scC (l, [], []))).den I v := by
  obtain ⟨xs, hv, hd, h1⟩ := h
  obtain ⟨x, y, z, rfl, hx, hy, hz⟩ := dens_three hd
  exact ⟨_, hv, dens_cons hx (dens_cons (nil_sl0 hy) (dens_cons (nil_sl0 hz) dens_nil)), h1⟩
def dgF (n : Nat) (l : List QP) : Nat := l.foldl (fun (n : Nat) (p : Rat × Rat) => max (max n (nD p.1)) (nD p.2)) n
theorem dgF_max (n : Nat) (l : List QP) : dgF n l = max n (dgF 0 l) := by
  unfold dgF
  induction l generalizing n with
  | nil => simp
  | cons p l ih => rw [List.foldl_cons, List.foldl_cons, ih, ih (max (max 0 (nD p.1)) (nD p.2))]; omega
def obP (l : List (List RP)) : List QP := (l.map pvs).flatten
def quP (l : List (RP × RP)) : List QP := l.flatMap fun q => [pv q.1, pv q.2]
theorem obP_succ {l : List (List RP)} {i : Nat} {x : List RP} (h : l[i]? = some x) : obP (l.take (i + 1)) = obP (l.take i) ++ pvs x := by
  unfold obP; rw [map_succ pvs h, List.flatten_append]; simp
theorem quP_succ {l : List (RP × RP)} {i : Nat} {x : RP × RP} (h : l[i]? = some x) : quP (l.take (i + 1)) = quP (l.take i) ++ [pv x.1, pv x.2] := flat_succ (fun q : RP × RP => [pv q.1, pv q.2]) h
theorem pts_eq (s : Sc) : (scPts s).map pv = pvs s.1 ++ obP s.2.1 ++ quP s.2.2 := by
  rw [scPts_eq, List.map_append, List.map_append, List.append_assoc]
  unfold obP quP
  congr 1
  congr 1
  · rw [List.map_flatten]; rfl
  · rw [List.map_flatMap]; rfl
theorem pts_rob (l : List RP) : (scPts (l, [], [])).map pv = pvs l := by rw [pts_eq]; simp [obP, quP]
theorem pts_le {s : Sc} {k n : Nat} (h : ScOk s k n) (i j : Nat) : (pvs s.1 ++ obP (s.2.1.take i) ++ quP (s.2.2.take j)).length ≤ n := by
  have h1 := h.len
  have h2 : ((scPts s).map pv).length ≤ n := by rwa [List.length_map]
  rw [pts_eq] at h2
  have h3 : (obP (s.2.1.take i)).length ≤ (obP s.2.1).length := by
    unfold obP; rw [List.map_take, List.flatten_eq_flatMap, List.flatten_eq_flatMap]; exact flat_take_le id _ _
  have h4 : (quP (s.2.2.take j)).length ≤ (quP s.2.2).length := flat_take_le _ _ _
  simp only [List.length_append] at h2 ⊢
  omega
theorem norm_ok {s : Sc} {k n : Nat} (h : ScOk s k n) : ScOk (rawS (nrm s)) k n := by
  have hp : qsPts (nrm s) = (scPts s).map pv := by
    rw [pts_eq]; unfold qsPts nrm obP quP
    rw [List.append_assoc, List.flatMap_map]; rfl
  refine raw_scok h.pos (fun p hp2 => ?_) (by rw [hp, List.length_map]; exact h.len) (by have := h.row; rw [scL_len] at this; unfold nrm; simpa using this)
  rw [hp] at hp2
  obtain ⟨r, hr, rfl⟩ := List.mem_map.1 hp2
  obtain ⟨x, hx, hrx⟩ := List.mem_flatMap.1 hr
  have ho := h.pt x hx r hrx
  exact ⟨(isQ_lim ho.1 h.pos).bq, (isQ_lim ho.2 h.pos).bq⟩
end Go.Proofs
